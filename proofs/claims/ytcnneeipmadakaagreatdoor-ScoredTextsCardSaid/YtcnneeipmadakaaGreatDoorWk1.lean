/- Each Go function computes its plain twin, by program. -/
import Derived.Test.YtcnneeipmadakaaGreatDoorTab
import Derived.Test.YtcnneeipmadakaaGreatDoorLay
import Derived.Test.YtcnneeipmadakaaGreatDoorText
namespace Go.Proofs.YtcnneeipmadakaaGreatDoor
open Go
theorem tumbmake_Below_ok (w : World) (Aq : Int) (Ax : Int) (r : Int) (h : tumbmake_Below Aq Ax = some r) :
    Calls Tryz.prog 44 [iV Aq, iV Ax].toArray w (Ret w [] fun _ v _ => v = iV r) := by
 refine f_enter [] [] Tryz.func44 rfl Tryz.ntmps44 rfl (by simp) (by simp [fps]) (by simp [fps]) fun a S => ?_
 unfold tumbmake_Below at h
 replace S := S.nk [] [(0, iV Aq), (1, iV Ax)] [] rfl (subR rfl)
 refine Fs (Fg (lv S (Ra rfl) rfl ?_));clear S;intro a S
 refine Ld (Tn (Fs (Fs (Fg (lv S (Rm (S.tm rfl)) rfl ?_)))));clear S;intro a S
 refine lv S (rn_lss (S.tm rfl) rfl) rfl ?_;clear S;intro a S
 refine Ld (Tn (f_cond (S.tm rfl) (fun hb1 => ?_) (fun hb1 => ?_)))
 ·replace h := iteT h hb1
  refine Fs (Fg (lv S (Ra rfl) rfl ?_));clear S;intro a S
  refine Ld (Tn (wp_ret (then_r ?_)))
  obtain rfl := Option.some.inj h
  exact f_ret S Tryz.results44 rfl rfl
 ·replace h := iteF h hb1
  refine wp_skip (Tn (Fs (Fg (lv S (Rm (S.tm rfl)) rfl ?_))));clear S;intro a S
  refine lv S (Rm (S.tm rfl)) rfl ?_;clear S;intro a S
  obtain ⟨hc1, h⟩ := chkE h
  refine lv S (rn_rem (S.tm rfl) (S.tm rfl) (ne0_of hc1)) rfl ?_;clear S;intro a S
  refine lv S (Ra (S.tm rfl)) rfl ?_;clear S;intro a S
  refine Ld (Tn (Fs (Fs (Fg (lv S (Rm (S.tm rfl)) rfl ?_)))));clear S;intro a S
  refine lv S (rn_lss (S.tm rfl) rfl) rfl ?_;clear S;intro a S
  refine Ld (Tn ?_)
  obtain ⟨j1, hj1, h⟩ := joinE h
  refine f_join (fun a w' => ∃ x1 : Int, j1 x1 = some r ∧ Sx w [] nov [] [(0, iV x1)] 16 a w') ?_ ?_
  ·refine f_cond (S.tm rfl) (fun hb2 => ?_) (fun hb2 => ?_)
   ·replace h := iteT h hb2
    refine Fg (lv S (Rm (S.tm rfl)) rfl ?_);clear S;intro a S
    refine lv S (Rm (S.tm rfl)) rfl ?_;clear S;intro a S
    refine lv S (rn_add (S.tm rfl) (S.tm rfl)) rfl ?_;clear S;intro a S
    refine lv S (Ra (S.tm rfl)) rfl ?_;clear S;intro a S
    refine Ld (Tn ?_)
    exact ⟨W ((Int.tmod Aq Ax) + Ax), h, S.nf [] rfl ⟨rfl, trivial⟩⟩
   ·replace h := iteF h hb2
    refine wp_skip (Tn ?_)
    exact ⟨Int.tmod Aq Ax, h, S.nf [] rfl ⟨rfl, trivial⟩⟩
  clear S h;rintro a w1 ⟨x1, h, S⟩;rw [hj1] at h;clear hj1 j1
  refine Tn (Fs (Fg (lv S (Rm (S.tm rfl)) rfl ?_)));clear S;intro a S
  refine lv S (Ra (S.tm rfl)) rfl ?_;clear S;intro a S
  refine Ld (Tn (wp_ret ?_))
  obtain rfl := Option.some.inj h
  exact f_ret S Tryz.results44 rfl rfl
set_option maxRecDepth 20000 in
theorem Stream_Next_ok (w : World) (O : Nat) (U : Value) (Ae : List Int) (Ag : Slc (view w [O]) 1 U (Ae.map eInt)) (Aa : Int) (Aw : (LEnt.blk O [U, iV Aa] 25).holds w) (Ax : Int) (r : Int × Int) (h : Stream_Next Ae Aa Ax = some r) :
    Calls Tryz.prog 17 [.pointer (some ⟨O, 0, none⟩), iV Ax].toArray w (Ret w [O] fun _ v w' => (LEnt.blk O [U, iV r.2] 25).holds w' ∧ v = iV r.1) := by
 refine f_enter [O] [.blk O [U, iV Aa] 25] Tryz.func17 rfl Tryz.ntmps17 rfl (fun e he => by simp only [List.mem_singleton] at he;subst he;exact Aw) (by simp [fps, LEnt.fp]) (by simp [fps, LEnt.fp]) fun a S => ?_
 unfold Stream_Next at h
 replace S := S.nk [.blk O [U, iV Aa] 25] [(0, .pointer (some ⟨O, 0, none⟩)), (1, iV Ax)] [true] rfl (subR rfl)
 refine Fs (Fg (lv S (Ra rfl) rfl ?_));clear S;intro a S
 refine Ld (Tn (Fs (Fg (lv S (Rm (S.tm rfl)) rfl ?_))));clear S;intro a S
 refine lv S (rn_nilCheck (S.tm rfl)) rfl ?_;clear S;intro a S
 refine lv S (rn_fld fa_25_1 (S.tm rfl)) rfl ?_;clear S;intro a S
 refine lv S (rn_load Tryz.isAgg3 (S.tm rfl) (S.cell (i := 0) rfl rfl)) rfl ?_;clear S;intro a S
 refine lv S (rn_add (S.tm rfl) rfl) rfl ?_;clear S;intro a S
 refine lv S (rn_nilCheck (S.tm rfl)) rfl ?_;clear S;intro a S
 refine lv S (rn_fld fa_25_1 (S.tm rfl)) rfl ?_;clear S;intro a S
 refine l_store S (S.tm rfl) (S.tm rfl) (i := 0) (off := 1) rfl Tryz.sizeOf3 (vs := [iV (W (Aa + 1))]) rfl rfl rfl rfl ?_;clear S;intro w1 hk1 S
 refine Ld (Tn (Fs (Fs (Fg (lv S (Rm (S.tm rfl)) rfl ?_)))));clear S;intro a S
 refine lv S (rn_nilCheck (S.tm rfl)) rfl ?_;clear S;intro a S
 refine lv S (rn_fld fa_25_0 (S.tm rfl)) rfl ?_;clear S;intro a S
 refine lv S (rn_load Tryz.isAgg22 (S.tm rfl) (S.cell (i := 0) rfl rfl)) rfl ?_;clear S;intro a S
 refine lv S (rn_lenT sl_22 (S.tm rfl) (slc_len Ag)) rfl ?_;clear S;intro a S
 refine lv S (rn_eql (S.tm rfl) rfl) rfl ?_;clear S;intro a S
 refine Ld ?_
 replace S := S.nk [.blk O [U, iV (W (Aa + 1))] 25] [(0, .pointer (some ⟨O, 0, none⟩)), (1, iV Ax), (19, bV (decide ((Ae.length : Int) = 0)))] [true] rfl (subR rfl)
 refine Tn (f_cond (S.tm rfl) (fun hb1 => ?_) (fun hb1 => ?_))
 ·replace h := iteT h hb1
  refine Fs (Fg (lv S (Rm (S.tm rfl)) rfl ?_));clear S;intro a S
  refine lv S (rn_nilCheck (S.tm rfl)) rfl ?_;clear S;intro a S
  refine lv S (rn_fld fa_25_1 (S.tm rfl)) rfl ?_;clear S;intro a S
  refine lv S (rn_load Tryz.isAgg3 (S.tm rfl) (S.cell (i := 0) rfl rfl)) rfl ?_;clear S;intro a S
  refine lv S (rn_mul (S.tm rfl) rfl) rfl ?_;clear S;intro a S
  refine lv S (Rm (S.tm rfl)) rfl ?_;clear S;intro a S
  obtain ⟨r1, hr1, h⟩ := bindE h
  refine l_enter S (fun _ => run_call (vs := [iV (W ((W (Aa + 1)) * 7919)), iV Ax]) ⟨(S.tm rfl), (S.tm rfl), trivial⟩ Tryz.call44) (tumbmake_Below_ok _ (W ((W (Aa + 1)) * 7919)) Ax _ hr1) rfl ?_;clear S;intro v1 a w2 hv1 hk2 hn1 S
  subst hv1
  refine lv S (Ra (S.tm rfl)) rfl ?_;clear S;intro a S
  refine Ld (Tn (wp_ret (then_r ?_)))
  obtain rfl := Option.some.inj h
  exact f_ret S Tryz.results17 rfl ⟨(S.holds _ (List.mem_of_getElem? (i := 0) rfl)), rfl⟩
 ·replace h := iteF h hb1
  refine wp_skip (Tn (Fs (d_region [] ([]) Tryz.mixed S rfl (by kernel_rfl) ?_)));clear S;intro w3 hk3 hsel S
  refine d_rest [0, 1, 2, 3, 4, 5, 6, 7, 8, 9, 10, 11] hsel (by kernel_rfl) rfl ?_
  clear hsel
  refine s_lv S rfl (Rm (S.tm rfl)) rfl ?_;clear S;intro a S
  refine s_lv S rfl (rn_nilCheck (S.tm rfl)) rfl ?_;clear S;intro a S
  refine s_lv S rfl (rn_fld fa_25_1 (S.tm rfl)) rfl ?_;clear S;intro a S
  refine s_lv S rfl (rn_load Tryz.isAgg3 (S.tm rfl) (S.cell (i := 0) rfl rfl)) rfl ?_;clear S;intro a S
  refine s_lv S rfl (rn_sub (S.tm rfl) rfl) rfl ?_;clear S;intro a S
  refine s_lv S rfl (Rm (S.tm rfl)) rfl ?_;clear S;intro a S
  refine s_lv S rfl (rn_nilCheck (S.tm rfl)) rfl ?_;clear S;intro a S
  refine s_lv S rfl (rn_fld fa_25_0 (S.tm rfl)) rfl ?_;clear S;intro a S
  refine s_lv S rfl (rn_load Tryz.isAgg22 (S.tm rfl) (S.cell (i := 0) rfl rfl)) rfl ?_;clear S;intro a S
  refine s_lv S rfl (rn_lenT sl_22 (S.tm rfl) (slc_len Ag)) rfl ?_;clear S;intro a S
  obtain ⟨hc1, h⟩ := chkE h
  refine s_lv S rfl (rn_rem (S.tm rfl) (S.tm rfl) (ne0_of hc1)) rfl ?_;clear S;intro a S
  refine s_lv S rfl (Ra (S.tm rfl)) rfl ?_;clear S;intro a S
  refine s_done ?_
  replace S := S.nk [.blk O [U, iV (W (Aa + 1))] 25] [(0, .pointer (some ⟨O, 0, none⟩)), (1, iV Ax), (5, iV (Int.tmod (W ((W (Aa + 1)) - 1)) (Ae.length : Int)))] [true] rfl (subR rfl)
  refine Tn (Fs (d_region [] ([]) Tryz.mixed S rfl (by kernel_rfl) ?_));clear S;intro w4 hk4 hsel S
  refine d_rest [0, 1, 2, 3, 4, 5, 6, 7, 8, 9, 10, 11] hsel (by kernel_rfl) rfl ?_
  clear hsel
  refine s_lv S rfl (Rm (S.tm rfl)) rfl ?_;clear S;intro a S
  refine s_lv S rfl (rn_nilCheck (S.tm rfl)) rfl ?_;clear S;intro a S
  refine s_lv S rfl (rn_fld fa_25_1 (S.tm rfl)) rfl ?_;clear S;intro a S
  refine s_lv S rfl (rn_load Tryz.isAgg3 (S.tm rfl) (S.cell (i := 0) rfl rfl)) rfl ?_;clear S;intro a S
  refine s_lv S rfl (rn_sub (S.tm rfl) rfl) rfl ?_;clear S;intro a S
  refine s_lv S rfl (Rm (S.tm rfl)) rfl ?_;clear S;intro a S
  refine s_lv S rfl (rn_nilCheck (S.tm rfl)) rfl ?_;clear S;intro a S
  refine s_lv S rfl (rn_fld fa_25_0 (S.tm rfl)) rfl ?_;clear S;intro a S
  refine s_lv S rfl (rn_load Tryz.isAgg22 (S.tm rfl) (S.cell (i := 0) rfl rfl)) rfl ?_;clear S;intro a S
  refine s_lv S rfl (rn_lenT sl_22 (S.tm rfl) (slc_len Ag)) rfl ?_;clear S;intro a S
  obtain ⟨hc2, h⟩ := chkE h
  refine s_lv S rfl (rn_quo (S.tm rfl) (S.tm rfl) (ne0_of hc2)) rfl ?_;clear S;intro a S
  refine s_lv S rfl (Ra (S.tm rfl)) rfl ?_;clear S;intro a S
  refine s_done ?_
  replace S := S.nk [.blk O [U, iV (W (Aa + 1))] 25] [(0, .pointer (some ⟨O, 0, none⟩)), (1, iV Ax), (5, iV (Int.tmod (W ((W (Aa + 1)) - 1)) (Ae.length : Int))), (6, iV (W (Int.tdiv (W ((W (Aa + 1)) - 1)) (Ae.length : Int))))] [true] rfl (subR rfl)
  refine Tn (Fs (Fg (lv S (Rm (S.tm rfl)) rfl ?_)));clear S;intro a S
  refine lv S (rn_nilCheck (S.tm rfl)) rfl ?_;clear S;intro a S
  refine lv S (rn_fld fa_25_0 (S.tm rfl)) rfl ?_;clear S;intro a S
  refine lv S (rn_load Tryz.isAgg22 (S.tm rfl) (S.cell (i := 0) rfl rfl)) rfl ?_;clear S;intro a S
  refine lv S (Rm (S.tm rfl)) rfl ?_;clear S;intro a S
  obtain ⟨hc3, h⟩ := chkE h
  obtain ⟨b1, o1, hm1, hr2⟩ := rn_indexT (a := a) (x := .tmp 52) (y := .tmp 53) (ty := 0) sl_22 Ag (inB_get hc3).1 (inB_get hc3).2 (S.tm rfl) (S.tm rfl)
  refine lv S (hr2 _) rfl ?_;clear S;intro a S
  clear hr2
  refine lv S (rn_ld Tryz.isAgg3 (off := o1) (o := 0) (S.tm rfl) (hm1.at S.emb0) rfl) rfl ?_;clear S;intro a S
  obtain ⟨r2, hr3, h⟩ := bindE h
  refine l_enter S (fun _ => run_call (vs := [iV (nth Ae (Int.tmod (W ((W (Aa + 1)) - 1)) (Ae.length : Int))), iV 1073741824]) ⟨(S.tm rfl), rfl, trivial⟩ Tryz.call44) (tumbmake_Below_ok _ (nth Ae (Int.tmod (W ((W (Aa + 1)) - 1)) (Ae.length : Int))) 1073741824 _ hr3) rfl ?_;clear S;intro v2 a w5 hv2 hk5 hn2 S
  subst hv2
  refine lv S (Rm (S.tm rfl)) rfl ?_;clear S;intro a S
  refine lv S (Rm (S.tm rfl)) rfl ?_;clear S;intro a S
  refine lv S (rn_add rfl (S.tm rfl)) rfl ?_;clear S;intro a S
  refine lv S (rn_mul (S.tm rfl) (S.tm rfl)) rfl ?_;clear S;intro a S
  refine lv S (rn_add (S.tm rfl) (S.tm rfl)) rfl ?_;clear S;intro a S
  refine lv S (Rm (S.tm rfl)) rfl ?_;clear S;intro a S
  obtain ⟨r3, hr4, h⟩ := bindE h
  refine l_enter S (fun _ => run_call (vs := [iV (W (r2 + (W ((W (Int.tdiv (W ((W (Aa + 1)) - 1)) (Ae.length : Int))) * (W (7919 + (Int.tmod (W ((W (Aa + 1)) - 1)) (Ae.length : Int)))))))), iV Ax]) ⟨(S.tm rfl), (S.tm rfl), trivial⟩ Tryz.call44) (tumbmake_Below_ok _ (W (r2 + (W ((W (Int.tdiv (W ((W (Aa + 1)) - 1)) (Ae.length : Int))) * (W (7919 + (Int.tmod (W ((W (Aa + 1)) - 1)) (Ae.length : Int)))))))) Ax _ hr4) rfl ?_;clear S;intro v3 a w6 hv3 hk6 hn3 S
  subst hv3
  refine lv S (Ra (S.tm rfl)) rfl ?_;clear S;intro a S
  refine Ld ?_
  replace S := S.nk [.blk O [U, iV (W (Aa + 1))] 25] [(4, iV r3)] [true] rfl ⟨rfl, trivial⟩
  refine Tn (wp_ret ?_)
  obtain rfl := Option.some.inj h
  exact f_ret S Tryz.results17 rfl ⟨(S.holds _ (List.mem_of_getElem? (i := 0) rfl)), rfl⟩
theorem Stream_Flip_ok (w : World) (O : Nat) (U : Value) (Ae : List Int) (Ag : Slc (view w [O]) 1 U (Ae.map eInt)) (Aa : Int) (Aw : (LEnt.blk O [U, iV Aa] 25).holds w) (Ax : Int) (r : Bool × Int) (h : Stream_Flip Ae Aa Ax = some r) :
    Calls Tryz.prog 14 [.pointer (some ⟨O, 0, none⟩), iV Ax].toArray w (Ret w [O] fun _ v w' => (LEnt.blk O [U, iV r.2] 25).holds w' ∧ v = bV r.1) := by
 refine f_enter [O] [.blk O [U, iV Aa] 25] Tryz.func14 rfl Tryz.ntmps14 rfl (fun e he => by simp only [List.mem_singleton] at he;subst he;exact Aw) (by simp [fps, LEnt.fp]) (by simp [fps, LEnt.fp]) fun a S => ?_
 unfold Stream_Flip at h
 replace S := S.nk [.blk O [U, iV Aa] 25] [(0, .pointer (some ⟨O, 0, none⟩)), (1, iV Ax)] [true] rfl (subR rfl)
 refine Fs (Fg (lv S (Ra rfl) rfl ?_));clear S;intro a S
 refine Ld (Tn (Fs (Fg (lv S (Rm (S.tm rfl)) rfl ?_))));clear S;intro a S
 refine lv S (Rm (S.tm rfl)) rfl ?_;clear S;intro a S
 obtain ⟨r1, hr1, h⟩ := bindE h
 refine l_enter1 0 S (b := O) rfl rfl (fun _ => .blk O [U, iV r1.2] 25) (fun _ => run_call (vs := [.pointer (some ⟨O, 0, none⟩), iV Ax]) ⟨(S.tm rfl), (S.tm rfl), trivial⟩ Tryz.call17) (Stream_Next_ok _ O U Ae (Ag.mono (S.le_arg (fp_sub (i := 0) (e := .blk O [U, iV Aa] 25) rfl))) Aa (S.holds _ (List.mem_of_getElem? (i := 0) rfl)) Ax _ hr1) rfl (fun _ _ _ h => ⟨h.1, fun _ hc => by cases hc;rfl⟩) ?_;clear S;intro v1 a w1 hv1 hk1 hn1 S
 replace hv1 := hv1.2
 subst hv1
 refine lv S (rn_eql (S.tm rfl) rfl) rfl ?_;clear S;intro a S
 refine lv S (Ra (S.tm rfl)) rfl ?_;clear S;intro a S
 refine Ld (Tn (wp_ret ?_))
 obtain rfl := Option.some.inj h
 exact f_ret S Tryz.results14 rfl ⟨(S.holds _ (List.mem_of_getElem? (i := 0) rfl)), rfl⟩
theorem Stream_Some_ok (w : World) (O : Nat) (U : Value) (Ae : List Int) (Ag : Slc (view w [O]) 1 U (Ae.map eInt)) (Aa : Int) (Aw : (LEnt.blk O [U, iV Aa] 25).holds w) (V : Value) (Z : List ByteArray) (Af : Slc (view w [O]) 1 V (Z.map eStr)) (r : ByteArray × Int) (h : Stream_Some Ae Aa Z = some r) :
    Calls Tryz.prog 16 [.pointer (some ⟨O, 0, none⟩), V].toArray w (Ret w [O] fun _ v w' => (LEnt.blk O [U, iV r.2] 25).holds w' ∧ v = sV r.1) := by
 refine f_enter [O] [.blk O [U, iV Aa] 25] Tryz.func16 rfl Tryz.ntmps16 rfl (fun e he => by simp only [List.mem_singleton] at he;subst he;exact Aw) (by simp [fps, LEnt.fp]) (by simp [fps, LEnt.fp]) fun a S => ?_
 unfold Stream_Some at h
 replace S := S.nk [.blk O [U, iV Aa] 25] [(0, .pointer (some ⟨O, 0, none⟩)), (1, V)] [true] rfl (subR rfl)
 refine Fs (Fg (lv S (Ra rfl) rfl ?_));clear S;intro a S
 refine Ld (Tn (Fs (Fg (lv S (Rm (S.tm rfl)) rfl ?_))));clear S;intro a S
 refine lv S (Rm (S.tm rfl)) rfl ?_;clear S;intro a S
 refine lv S (Rm (S.tm rfl)) rfl ?_;clear S;intro a S
 refine lv S (rn_lenT sl_59 (S.tm rfl) (slc_len Af)) rfl ?_;clear S;intro a S
 obtain ⟨r1, hr1, h⟩ := bindE h
 refine l_enter1 0 S (b := O) rfl rfl (fun _ => .blk O [U, iV r1.2] 25) (fun _ => run_call (vs := [.pointer (some ⟨O, 0, none⟩), iV (Z.length : Int)]) ⟨(S.tm rfl), (S.tm rfl), trivial⟩ Tryz.call17) (Stream_Next_ok _ O U Ae (Ag.mono (S.le_arg (fp_sub (i := 0) (e := .blk O [U, iV Aa] 25) rfl))) Aa (S.holds _ (List.mem_of_getElem? (i := 0) rfl)) (Z.length : Int) _ hr1) rfl (fun _ _ _ h => ⟨h.1, fun _ hc => by cases hc;rfl⟩) ?_;clear S;intro v1 a w1 hv1 hk1 hn1 S
 replace hv1 := hv1.2
 subst hv1
 obtain ⟨hc1, h⟩ := chkE h
 obtain ⟨b1, o1, hm1, hr2⟩ := rn_indexT (a := a) (x := .tmp 5) (y := .tmp 9) (ty := 0) sl_59 Af (inB_get hc1).1 (inB_get hc1).2 (S.tm rfl) (S.tm rfl)
 refine lv S (hr2 _) rfl ?_;clear S;intro a S
 clear hr2
 refine lv S (rn_ld Tryz.isAgg9 (off := o1) (o := 0) (S.tm rfl) (hm1.at S.emb0) rfl) rfl ?_;clear S;intro a S
 refine lv S (Ra (S.tm rfl)) rfl ?_;clear S;intro a S
 refine Ld (Tn (wp_ret ?_))
 obtain rfl := Option.some.inj h
 exact f_ret S Tryz.results16 rfl ⟨(S.holds _ (List.mem_of_getElem? (i := 0) rfl)), rfl⟩
theorem Stream_Pick_ok (w : World) (O : Nat) (U : Value) (Ae : List Int) (Ag : Slc (view w [O]) 1 U (Ae.map eInt)) (Aa : Int) (Aw : (LEnt.blk O [U, iV Aa] 25).holds w) (V : Value) (Z : List Int) (Af : Slc (view w [O]) 1 V (Z.map eInt)) (r : Int × Int) (h : Stream_Pick Ae Aa Z = some r) :
    Calls Tryz.prog 19 [.pointer (some ⟨O, 0, none⟩), V].toArray w (Ret w [O] fun _ v w' => (LEnt.blk O [U, iV r.2] 25).holds w' ∧ v = iV r.1) := by
 refine f_enter [O] [.blk O [U, iV Aa] 25] Tryz.func19 rfl Tryz.ntmps19 rfl (fun e he => by simp only [List.mem_singleton] at he;subst he;exact Aw) (by simp [fps, LEnt.fp]) (by simp [fps, LEnt.fp]) fun a S => ?_
 unfold Stream_Pick at h
 replace S := S.nk [.blk O [U, iV Aa] 25] [(0, .pointer (some ⟨O, 0, none⟩)), (1, V)] [true] rfl (subR rfl)
 refine Fs (Fg (lv S (Ra rfl) rfl ?_));clear S;intro a S
 refine Ld (Tn (Fs (Fg (lv S (Rm (S.tm rfl)) rfl ?_))));clear S;intro a S
 refine lv S (Rm (S.tm rfl)) rfl ?_;clear S;intro a S
 refine lv S (Rm (S.tm rfl)) rfl ?_;clear S;intro a S
 refine lv S (rn_lenT sl_22 (S.tm rfl) (slc_len Af)) rfl ?_;clear S;intro a S
 obtain ⟨r1, hr1, h⟩ := bindE h
 refine l_enter1 0 S (b := O) rfl rfl (fun _ => .blk O [U, iV r1.2] 25) (fun _ => run_call (vs := [.pointer (some ⟨O, 0, none⟩), iV (Z.length : Int)]) ⟨(S.tm rfl), (S.tm rfl), trivial⟩ Tryz.call17) (Stream_Next_ok _ O U Ae (Ag.mono (S.le_arg (fp_sub (i := 0) (e := .blk O [U, iV Aa] 25) rfl))) Aa (S.holds _ (List.mem_of_getElem? (i := 0) rfl)) (Z.length : Int) _ hr1) rfl (fun _ _ _ h => ⟨h.1, fun _ hc => by cases hc;rfl⟩) ?_;clear S;intro v1 a w1 hv1 hk1 hn1 S
 replace hv1 := hv1.2
 subst hv1
 obtain ⟨hc1, h⟩ := chkE h
 obtain ⟨b1, o1, hm1, hr2⟩ := rn_indexT (a := a) (x := .tmp 5) (y := .tmp 9) (ty := 0) sl_22 Af (inB_get hc1).1 (inB_get hc1).2 (S.tm rfl) (S.tm rfl)
 refine lv S (hr2 _) rfl ?_;clear S;intro a S
 clear hr2
 refine lv S (rn_ld Tryz.isAgg3 (off := o1) (o := 0) (S.tm rfl) (hm1.at S.emb0) rfl) rfl ?_;clear S;intro a S
 refine lv S (Ra (S.tm rfl)) rfl ?_;clear S;intro a S
 refine Ld (Tn (wp_ret ?_))
 obtain rfl := Option.some.inj h
 exact f_ret S Tryz.results19 rfl ⟨(S.holds _ (List.mem_of_getElem? (i := 0) rfl)), rfl⟩
set_option maxRecDepth 20000 in
theorem bits_Len32_ok (w : World) (Aq : Int) (r : Int) (h : bits_Len32 Aq = some r) :
    Calls Tryz.prog 103 [.int .u32 Aq].toArray w (Ret w [] fun _ v _ => v = iV r) := by
 refine f_enter [] [] Tryz.func103 rfl Tryz.ntmps103 rfl (by simp) (by simp [fps]) (by simp [fps]) fun a S => ?_
 unfold bits_Len32 at h
 replace S := S.nk [] [(0, .int .u32 Aq)] [] rfl ⟨rfl, trivial⟩
 refine Fs (Fg (lv S (Ra rfl) rfl ?_));clear S;intro a S
 refine Ld (Tn (Fs (Fs (Fg (lv S (Rm (S.tm rfl)) rfl ?_)))));clear S;intro a S
 refine lv S (rn_geq (S.tm rfl) rfl) rfl ?_;clear S;intro a S
 refine Ld (Tn ?_)
 obtain ⟨j1, hj1, h⟩ := joinE h
 refine f_join (fun a w' => ∃ x1 : Int, ∃ x2 : Int, j1 x1 x2 = some r ∧ Sx w [] nov [] [(0, .int .u32 x1), (2, iV x2)] 19 a w') ?_ ?_
 ·refine f_cond (S.tm rfl) (fun hb1 => ?_) (fun hb1 => ?_)
  ·replace h := iteT h hb1
   refine Fs (Fg (lv S (Rm (S.tm rfl)) rfl ?_));clear S;intro a S
   refine lv S (rn_shr (S.tm rfl) rfl (by decide)) rfl ?_;clear S;intro a S
   refine lv S (Ra (S.tm rfl)) rfl ?_;clear S;intro a S
   refine Ld (Tn (Fg (lv S (Ra rfl) rfl ?_)));clear S;intro a S
   refine Ld (Tn ?_)
   exact ⟨bitShr .u32 Aq 16, 16, h, S.nf [] rfl (subR rfl)⟩
  ·replace h := iteF h hb1
   refine wp_skip (Tn ?_)
   exact ⟨Aq, 0, h, S.nf [] rfl (subR rfl)⟩
 clear S h;rintro a w1 ⟨x1, x2, h, S⟩;rw [hj1] at h;clear hj1 j1
 refine Tn (Fs (Fs (Fg (lv S (Rm (S.tm rfl)) rfl ?_))));clear S;intro a S
 refine lv S (rn_geq (S.tm rfl) rfl) rfl ?_;clear S;intro a S
 refine Ld (Tn ?_)
 obtain ⟨j2, hj2, h⟩ := joinE h
 refine f_join (fun a w' => ∃ x3 : Int, ∃ x4 : Int, j2 x3 x4 = some r ∧ Sx w [] nov [] [(0, .int .u32 x3), (2, iV x4)] 19 a w') ?_ ?_
 ·refine f_cond (S.tm rfl) (fun hb2 => ?_) (fun hb2 => ?_)
  ·replace h := iteT h hb2
   refine Fs (Fg (lv S (Rm (S.tm rfl)) rfl ?_));clear S;intro a S
   refine lv S (rn_shr (S.tm rfl) rfl (by decide)) rfl ?_;clear S;intro a S
   refine lv S (Ra (S.tm rfl)) rfl ?_;clear S;intro a S
   refine Ld (Tn (Fg (lv S (Rm (S.tm rfl)) rfl ?_)));clear S;intro a S
   refine lv S (rn_add (S.tm rfl) rfl) rfl ?_;clear S;intro a S
   refine lv S (Ra (S.tm rfl)) rfl ?_;clear S;intro a S
   refine Ld (Tn ?_)
   exact ⟨bitShr .u32 x1 8, W (x2 + 8), h, S.nf [] rfl (subR rfl)⟩
  ·replace h := iteF h hb2
   refine wp_skip (Tn ?_)
   exact ⟨x1, x2, h, S.nf [] rfl (subR rfl)⟩
 clear S h;rintro a w2 ⟨x3, x4, h, S⟩;rw [hj2] at h;clear hj2 j2
 refine Tn (Fs (Fg (lv S (Rm (S.tm rfl)) rfl ?_)));clear S;intro a S
 refine lv S (Rm (S.tm rfl)) rfl ?_;clear S;intro a S
 refine lv S (rn_conv Tryz.underlying126 Tryz.underlying5 (S.tm rfl)) rfl ?_;clear S;intro a S
 obtain ⟨hc1, h⟩ := chkE h
 refine lv S (rn_sindexT Tryz.underlying9 rfl (S.tm rfl) hc1) rfl ?_;clear S;intro a S
 refine lv S (rn_conv Tryz.underlying5 Tryz.underlying3 (S.tm rfl)) rfl ?_;clear S;intro a S
 refine lv S (rn_add (S.tm rfl) (S.tm rfl)) rfl ?_;clear S;intro a S
 refine lv S (Ra (S.tm rfl)) rfl ?_;clear S;intro a S
 refine Ld (Tn (wp_ret ?_))
 obtain rfl := Option.some.inj h
 exact f_ret S Tryz.results103 rfl rfl
set_option maxRecDepth 20000 in
theorem bits_Len64_ok (w : World) (Aq : Int) (r : Int) (h : bits_Len64 Aq = some r) :
    Calls Tryz.prog 104 [.int .u64 Aq].toArray w (Ret w [] fun _ v _ => v = iV r) := by
 refine f_enter [] [] Tryz.func104 rfl Tryz.ntmps104 rfl (by simp) (by simp [fps]) (by simp [fps]) fun a S => ?_
 unfold bits_Len64 at h
 replace S := S.nk [] [(0, .int .u64 Aq)] [] rfl ⟨rfl, trivial⟩
 refine Fs (Fg (lv S (Ra rfl) rfl ?_));clear S;intro a S
 refine Ld (Tn (Fs (Fs (Fg (lv S (Rm (S.tm rfl)) rfl ?_)))));clear S;intro a S
 refine lv S (rn_geq (S.tm rfl) rfl) rfl ?_;clear S;intro a S
 refine Ld (Tn ?_)
 obtain ⟨j1, hj1, h⟩ := joinE h
 refine f_join (fun a w' => ∃ x1 : Int, ∃ x2 : Int, j1 x1 x2 = some r ∧ Sx w [] nov [] [(0, .int .u64 x1), (2, iV x2)] 25 a w') ?_ ?_
 ·refine f_cond (S.tm rfl) (fun hb1 => ?_) (fun hb1 => ?_)
  ·replace h := iteT h hb1
   refine Fs (Fg (lv S (Rm (S.tm rfl)) rfl ?_));clear S;intro a S
   refine lv S (rn_shr (S.tm rfl) rfl (by decide)) rfl ?_;clear S;intro a S
   refine lv S (Ra (S.tm rfl)) rfl ?_;clear S;intro a S
   refine Ld (Tn (Fg (lv S (Ra rfl) rfl ?_)));clear S;intro a S
   refine Ld (Tn ?_)
   exact ⟨bitShr .u64 Aq 32, 32, h, S.nf [] rfl (subR rfl)⟩
  ·replace h := iteF h hb1
   refine wp_skip (Tn ?_)
   exact ⟨Aq, 0, h, S.nf [] rfl (subR rfl)⟩
 clear S h;rintro a w1 ⟨x1, x2, h, S⟩;rw [hj1] at h;clear hj1 j1
 refine Tn (Fs (Fs (Fg (lv S (Rm (S.tm rfl)) rfl ?_))));clear S;intro a S
 refine lv S (rn_geq (S.tm rfl) rfl) rfl ?_;clear S;intro a S
 refine Ld (Tn ?_)
 obtain ⟨j2, hj2, h⟩ := joinE h
 refine f_join (fun a w' => ∃ x3 : Int, ∃ x4 : Int, j2 x3 x4 = some r ∧ Sx w [] nov [] [(0, .int .u64 x3), (2, iV x4)] 25 a w') ?_ ?_
 ·refine f_cond (S.tm rfl) (fun hb2 => ?_) (fun hb2 => ?_)
  ·replace h := iteT h hb2
   refine Fs (Fg (lv S (Rm (S.tm rfl)) rfl ?_));clear S;intro a S
   refine lv S (rn_shr (S.tm rfl) rfl (by decide)) rfl ?_;clear S;intro a S
   refine lv S (Ra (S.tm rfl)) rfl ?_;clear S;intro a S
   refine Ld (Tn (Fg (lv S (Rm (S.tm rfl)) rfl ?_)));clear S;intro a S
   refine lv S (rn_add (S.tm rfl) rfl) rfl ?_;clear S;intro a S
   refine lv S (Ra (S.tm rfl)) rfl ?_;clear S;intro a S
   refine Ld (Tn ?_)
   exact ⟨bitShr .u64 x1 16, W (x2 + 16), h, S.nf [] rfl (subR rfl)⟩
  ·replace h := iteF h hb2
   refine wp_skip (Tn ?_)
   exact ⟨x1, x2, h, S.nf [] rfl (subR rfl)⟩
 clear S h;rintro a w2 ⟨x3, x4, h, S⟩;rw [hj2] at h;clear hj2 j2
 refine Tn (Fs (Fs (Fg (lv S (Rm (S.tm rfl)) rfl ?_))));clear S;intro a S
 refine lv S (rn_geq (S.tm rfl) rfl) rfl ?_;clear S;intro a S
 refine Ld (Tn ?_)
 obtain ⟨j3, hj3, h⟩ := joinE h
 refine f_join (fun a w' => ∃ x5 : Int, ∃ x6 : Int, j3 x5 x6 = some r ∧ Sx w [] nov [] [(0, .int .u64 x5), (2, iV x6)] 25 a w') ?_ ?_
 ·refine f_cond (S.tm rfl) (fun hb3 => ?_) (fun hb3 => ?_)
  ·replace h := iteT h hb3
   refine Fs (Fg (lv S (Rm (S.tm rfl)) rfl ?_));clear S;intro a S
   refine lv S (rn_shr (S.tm rfl) rfl (by decide)) rfl ?_;clear S;intro a S
   refine lv S (Ra (S.tm rfl)) rfl ?_;clear S;intro a S
   refine Ld (Tn (Fg (lv S (Rm (S.tm rfl)) rfl ?_)));clear S;intro a S
   refine lv S (rn_add (S.tm rfl) rfl) rfl ?_;clear S;intro a S
   refine lv S (Ra (S.tm rfl)) rfl ?_;clear S;intro a S
   refine Ld (Tn ?_)
   exact ⟨bitShr .u64 x3 8, W (x4 + 8), h, S.nf [] rfl (subR rfl)⟩
  ·replace h := iteF h hb3
   refine wp_skip (Tn ?_)
   exact ⟨x3, x4, h, S.nf [] rfl (subR rfl)⟩
 clear S h;rintro a w3 ⟨x5, x6, h, S⟩;rw [hj3] at h;clear hj3 j3
 refine Tn (Fs (Fg (lv S (Rm (S.tm rfl)) rfl ?_)));clear S;intro a S
 refine lv S (Rm (S.tm rfl)) rfl ?_;clear S;intro a S
 refine lv S (rn_conv Tryz.underlying114 Tryz.underlying5 (S.tm rfl)) rfl ?_;clear S;intro a S
 obtain ⟨hc1, h⟩ := chkE h
 refine lv S (rn_sindexT Tryz.underlying9 rfl (S.tm rfl) hc1) rfl ?_;clear S;intro a S
 refine lv S (rn_conv Tryz.underlying5 Tryz.underlying3 (S.tm rfl)) rfl ?_;clear S;intro a S
 refine lv S (rn_add (S.tm rfl) (S.tm rfl)) rfl ?_;clear S;intro a S
 refine lv S (Ra (S.tm rfl)) rfl ?_;clear S;intro a S
 refine Ld (Tn (wp_ret ?_))
 obtain rfl := Option.some.inj h
 exact f_ret S Tryz.results104 rfl rfl
theorem bits_Len_ok (w : World) (Aq : Int) (r : Int) (h : bits_Len Aq = some r) :
    Calls Tryz.prog 68 [.int .u64 Aq].toArray w (Ret w [] fun _ v _ => v = iV r) := by
 refine f_enter [] [] Tryz.func68 rfl Tryz.ntmps68 rfl (by simp) (by simp [fps]) (by simp [fps]) fun a S => ?_
 unfold bits_Len at h
 replace S := S.nk [] [(0, .int .u64 Aq)] [] rfl ⟨rfl, trivial⟩
 refine Fs (Fg (lv S (Ra rfl) rfl ?_));clear S;intro a S
 refine Ld (Tn (Fs (f_cond rfl (fun hb1 => ?_) (fun hb1 => ?_))))
 ·replace h := iteT h hb1
  refine Fs (Fg (lv S (Rm (S.tm rfl)) rfl ?_));clear S;intro a S
  refine lv S (rn_conv Tryz.underlying92 Tryz.underlying126 (S.tm rfl)) rfl ?_;clear S;intro a S
  obtain ⟨r1, hr1, h⟩ := bindE h
  refine l_enter S (fun _ => run_call (vs := [.int .u32 (IntKind.wrap .u32 Aq)]) ⟨(S.tm rfl), trivial⟩ Tryz.call103) (bits_Len32_ok _ (IntKind.wrap .u32 Aq) _ hr1) rfl ?_;clear S;intro v1 a w1 hv1 hk1 hn1 S
  subst hv1
  refine lv S (Ra (S.tm rfl)) rfl ?_;clear S;intro a S
  refine Ld (Tn (wp_ret (then_r ?_)))
  obtain rfl := Option.some.inj h
  exact f_ret S Tryz.results68 rfl rfl
 ·replace h := iteF h hb1
  refine wp_skip (Tn (Fs (Fg (lv S (Rm (S.tm rfl)) rfl ?_))));clear S;intro a S
  obtain ⟨r2, hr2, h⟩ := bindE h
  refine l_enter S (fun _ => run_call (vs := [.int .u64 Aq]) ⟨(S.tm rfl), trivial⟩ Tryz.call104) (bits_Len64_ok _ Aq _ hr2) rfl ?_;clear S;intro v2 a w2 hv2 hk2 hn2 S
  subst hv2
  refine lv S (Ra (S.tm rfl)) rfl ?_;clear S;intro a S
  refine Ld (Tn (wp_ret ?_))
  obtain rfl := Option.some.inj h
  exact f_ret S Tryz.results68 rfl rfl
theorem strings_Compare_ok (w : World) (s t : ByteArray) (r : Int) (h : strings_Compare s t = r) : Calls Tryz.prog 54 [.string s, .string t].toArray w (Ret w [] fun _ v _ => v = .int .i64 r) := by
  subst h
  exact ret_of_same (Any.strings_Compare Tryz.lays106 s t w)
theorem tumbref2_ScoredOrder_c1_ok (w : World) (Ac : GScored) (r : Int) (h : tumbref2_ScoredOrder_c1 Ac = r) :
    Calls Tryz.prog 53 [.agg (GScored.enc Ac).toArray].toArray w (Ret w [] fun _ v _ => v = iV r) := by
 refine f_enter [] [] Tryz.func53 rfl Tryz.ntmps53 rfl (by simp) (by simp [fps]) (by simp [fps]) fun a S => ?_
 unfold tumbref2_ScoredOrder_c1 at h
 replace S := S.nk [] [(0, .agg (GScored.enc Ac).toArray)] [] rfl ⟨rfl, trivial⟩
 refine Fs (Fg (l_box S (S.tm rfl) (cs := (GScored.enc Ac)) rfl rfl ?_));clear S;intro a w1 b1 hz1 hk1 S
 refine lv S (Ra rfl) rfl ?_;clear S;intro a S
 refine Ld (Tn (Fs (Fs (Fg (lv S (rn_fld fa_38_3 (S.tm rfl)) rfl ?_)))));clear S;intro a S
 refine lv S (rn_load Tryz.isAgg3 (S.tm rfl) (S.cell (i := 0) rfl rfl)) rfl ?_;clear S;intro a S
 refine lv S (rn_eql (S.tm rfl) rfl) rfl ?_;clear S;intro a S
 refine Ld (Tn (f_cond (S.tm rfl) (fun hb1 => ?_) (fun hb1 => ?_)))
 ·replace h := iteT h hb1
  refine Fs (Fg (lv S (Ra rfl) rfl ?_));clear S;intro a S
  refine Ld (Tn (wp_ret (then_r ?_)))
  subst h
  exact f_ret S Tryz.results53 rfl rfl
 ·replace h := iteF h hb1
  refine wp_skip (Tn (Fs (Fg (lv S (rn_fld fa_38_3 (S.tm rfl)) rfl ?_))));clear S;intro a S
  refine lv S (rn_load Tryz.isAgg3 (S.tm rfl) (S.cell (i := 0) rfl rfl)) rfl ?_;clear S;intro a S
  refine lv S (Ra (S.tm rfl)) rfl ?_;clear S;intro a S
  refine Ld (Tn (wp_ret ?_))
  subst h
  exact f_ret S Tryz.results53 rfl rfl
theorem tumbref2_sign_ok (w : World) (Ax : Int) (r : Int) (h : tumbref2_sign Ax = r) :
    Calls Tryz.prog 55 [iV Ax].toArray w (Ret w [] fun _ v _ => v = iV r) := by
 refine f_enter [] [] Tryz.func55 rfl Tryz.ntmps55 rfl (by simp) (by simp [fps]) (by simp [fps]) fun a S => ?_
 unfold tumbref2_sign at h
 replace S := S.nk [] [(0, iV Ax)] [] rfl ⟨rfl, trivial⟩
 refine Fs (Fg (lv S (Ra rfl) rfl ?_));clear S;intro a S
 refine Ld (Tn (Fs (wp_block (Fs (Fg (lv S (Rm (S.tm rfl)) rfl ?_))))));clear S;intro a S
 refine lv S (rn_lss (S.tm rfl) rfl) rfl ?_;clear S;intro a S
 refine lv S (Ra (S.tm rfl)) rfl ?_;clear S;intro a S
 refine Ld (Tn (f_cond (S.tm rfl) (fun hb1 => ?_) (fun hb1 => ?_)))
 ·replace h := iteT h hb1
  refine Fs (Fg (lv S (Ra rfl) rfl ?_));clear S;intro a S
  refine Ld (Tn (wp_ret (blk_r (then_r ?_))))
  subst h
  exact f_ret S Tryz.results55 rfl rfl
 ·replace h := iteF h hb1
  refine Fs (Fg (lv S (Rm (S.tm rfl)) rfl ?_));clear S;intro a S
  refine lv S (rn_gtr (S.tm rfl) rfl) rfl ?_;clear S;intro a S
  refine lv S (Ra (S.tm rfl)) rfl ?_;clear S;intro a S
  refine Ld (Tn (f_cond (S.tm rfl) (fun hb2 => ?_) (fun hb2 => ?_)))
  ·replace h := iteT h hb2
   refine Fs (Fg (lv S (Ra rfl) rfl ?_));clear S;intro a S
   refine Ld (Tn (wp_ret (blk_r (then_r ?_))))
   subst h
   exact f_ret S Tryz.results55 rfl rfl
  ·replace h := iteF h hb2
   refine wp_skip (blk_n (Tn (Fs (Fg (lv S (Ra rfl) rfl ?_)))));clear S;intro a S
   refine Ld (Tn (wp_ret ?_))
   subst h
   exact f_ret S Tryz.results55 rfl rfl
set_option maxRecDepth 20000 in
theorem tumbref2_ScoredOrder_ok (w : World) (Ak : GScored) (Al : GScored) (r : Int) (h : tumbref2_ScoredOrder Ak Al = r) :
    Calls Tryz.prog 30 [.agg (GScored.enc Ak).toArray, .agg (GScored.enc Al).toArray].toArray w (Ret w [] fun _ v _ => v = iV r) := by
 refine f_enter [] [] Tryz.func30 rfl Tryz.ntmps30 rfl (by simp) (by simp [fps]) (by simp [fps]) fun a S => ?_
 unfold tumbref2_ScoredOrder at h
 replace S := S.nk [] [(0, .agg (GScored.enc Ak).toArray), (1, .agg (GScored.enc Al).toArray)] [] rfl (subR rfl)
 refine Fs (Fg (l_box S (S.tm rfl) (cs := (GScored.enc Ak)) rfl rfl ?_));clear S;intro a w1 b1 hz1 hk1 S
 refine l_box S (S.tm rfl) (cs := (GScored.enc Al)) rfl rfl ?_;clear S;intro a w2 b2 hz2 hk2 S
 refine lv S (Ra rfl) rfl ?_;clear S;intro a S
 refine Ld (Tn (Fs (Fg (lv S (Ra rfl) rfl ?_))));clear S;intro a S
 refine Ld (Tn (Fs (wp_block (Fs (Fg (lv S (rn_fld fa_38_0 (S.tm rfl)) rfl ?_))))));clear S;intro a S
 refine lv S (rn_load Tryz.isAgg9 (S.tm rfl) (S.cell (i := 1) rfl rfl)) rfl ?_;clear S;intro a S
 refine lv S (rn_fld fa_38_0 (S.tm rfl)) rfl ?_;clear S;intro a S
 refine lv S (rn_load Tryz.isAgg9 (S.tm rfl) (S.cell (i := 0) rfl rfl)) rfl ?_;clear S;intro a S
 refine lv S (rn_sneq (S.tm rfl) (S.tm rfl)) rfl ?_;clear S;intro a S
 refine lv S (Ra (S.tm rfl)) rfl ?_;clear S;intro a S
 refine Ld (Tn (f_cond (S.tm rfl) (fun hb1 => ?_) (fun hb1 => ?_)))
 ·replace h := iteT h hb1
  refine Fs (Fg (lv S (rn_fld fa_38_0 (S.tm rfl)) rfl ?_));clear S;intro a S
  refine lv S (rn_load Tryz.isAgg9 (S.tm rfl) (S.cell (i := 1) rfl rfl)) rfl ?_;clear S;intro a S
  refine lv S (rn_fld fa_38_0 (S.tm rfl)) rfl ?_;clear S;intro a S
  refine lv S (rn_load Tryz.isAgg9 (S.tm rfl) (S.cell (i := 0) rfl rfl)) rfl ?_;clear S;intro a S
  refine l_enter S (fun _ => run_call (vs := [sV Ak.Race, sV Al.Race]) ⟨(S.tm rfl), (S.tm rfl), trivial⟩ Tryz.call54) (strings_Compare_ok _ Ak.Race Al.Race _ rfl) rfl ?_;clear S;intro v1 a w3 hv1 hk3 hn1 S
  subst hv1
  refine lv S (Ra (S.tm rfl)) rfl ?_;clear S;intro a S
  refine Ld ?_
  replace S := S.nk [] [(4, iV (strings_Compare Ak.Race Al.Race))] [false, false] rfl ⟨rfl, trivial⟩
  refine Tn (wp_ret (blk_r (then_r ?_)))
  subst h
  exact f_ret S Tryz.results30 rfl rfl
 ·replace h := iteF h hb1
  refine Fs (d_region [] ([]) Tryz.mixed S rfl (by kernel_rfl) ?_);clear S;intro w6 hk6 hsel S
  refine d_quiet 0 S hsel rfl rfl rfl (by kernel_rfl) (by kernel_rfl) rfl (fun _ hw => (Rm (S.tm rfl))) ?_;clear S;intro a S
  refine d_quiet 1 S hsel rfl rfl rfl (by kernel_rfl) (by kernel_rfl) rfl (fun _ hw => (rn_ldA Tryz.isAgg38 Tryz.sizeOf38 (off := 0) (o := 0) (part := (GScored.enc Ak)) rfl rfl (S.tm rfl) ((S.blk_mem (i := 1) (cells := (GScored.enc Ak)) (b := b1) (T := 38) rfl (ne_nil (e' := .blk b1 (GScored.enc Ak) 38))).kept hw))) ?_;clear S;intro a S
  refine d_quiet 3 S hsel rfl rfl rfl (by kernel_rfl) (by kernel_rfl) rfl (fun _ hw => (Rm (S.tm rfl))) ?_;clear S;intro a S
  refine d_quiet 4 S hsel rfl rfl rfl (by kernel_rfl) (by kernel_rfl) rfl (fun _ hw => (rn_ldA Tryz.isAgg38 Tryz.sizeOf38 (off := 0) (o := 0) (part := (GScored.enc Al)) rfl rfl (S.tm rfl) ((S.blk_mem (i := 0) (cells := (GScored.enc Al)) (b := b2) (T := 38) rfl (ne_nil (e' := .blk b2 (GScored.enc Al) 38))).kept hw))) ?_;clear S;intro a S
  refine d_loud1 2 (by kernel_rfl) rfl (l_enter S (fun _ => run_callV (cap := []) (S.tm rfl) (vs := [.agg (GScored.enc Ak).toArray]) ⟨(S.tm rfl), trivial⟩ Tryz.call53) (tumbref2_ScoredOrder_c1_ok _ Ak _ rfl) rfl ?_);clear S;intro v4 a w7 hv4 hk7 hn4 S
  subst hv4
  refine Ld (d_next hk7 (d_loud1 5 (by kernel_rfl) rfl (l_enter S (fun _ => run_callV (cap := []) (S.tm rfl) (vs := [.agg (GScored.enc Al).toArray]) ⟨(S.tm rfl), trivial⟩ Tryz.call53) (tumbref2_ScoredOrder_c1_ok _ Al _ rfl) rfl ?_)));clear S;intro v5 a w8 hv5 hk8 hn5 S
  subst hv5
  refine Ld (d_next hk8 (d_rest [6, 7] hsel (by kernel_rfl) rfl ?_))
  clear hsel
  refine s_lv S rfl (rn_neq (S.tm rfl) (S.tm rfl)) rfl ?_;clear S;intro a S
  refine s_lv S rfl (Ra (S.tm rfl)) rfl ?_;clear S;intro a S
  refine s_done ?_
  replace S := S.nk [.blk b2 (GScored.enc Al) 38, .blk b1 (GScored.enc Ak) 38] [(2, .pointer (some ⟨b1, 0, none⟩)), (3, .pointer (some ⟨b2, 0, none⟩)), (5, .func (.func 53) #[] #[]), (17, bV (!decide ((tumbref2_ScoredOrder_c1 Ak) = (tumbref2_ScoredOrder_c1 Al))))] [true, true] rfl (subR rfl)
  refine Tn (f_cond (S.tm rfl) (fun hb2 => ?_) (fun hb2 => ?_))
  ·replace h := iteT h hb2
   refine Fs (d_region [] ([]) Tryz.mixed S rfl (by kernel_rfl) ?_);clear S;intro w12 hk12 hsel S
   refine d_quiet 0 S hsel rfl rfl rfl (by kernel_rfl) (by kernel_rfl) rfl (fun _ hw => (Rm (S.tm rfl))) ?_;clear S;intro a S
   refine d_quiet 1 S hsel rfl rfl rfl (by kernel_rfl) (by kernel_rfl) rfl (fun _ hw => (rn_ldA Tryz.isAgg38 Tryz.sizeOf38 (off := 0) (o := 0) (part := (GScored.enc Ak)) rfl rfl (S.tm rfl) ((S.blk_mem (i := 1) (cells := (GScored.enc Ak)) (b := b1) (T := 38) rfl (ne_nil (e' := .blk b1 (GScored.enc Ak) 38))).kept hw))) ?_;clear S;intro a S
   refine d_quiet 3 S hsel rfl rfl rfl (by kernel_rfl) (by kernel_rfl) rfl (fun _ hw => (Rm (S.tm rfl))) ?_;clear S;intro a S
   refine d_quiet 4 S hsel rfl rfl rfl (by kernel_rfl) (by kernel_rfl) rfl (fun _ hw => (rn_ldA Tryz.isAgg38 Tryz.sizeOf38 (off := 0) (o := 0) (part := (GScored.enc Al)) rfl rfl (S.tm rfl) ((S.blk_mem (i := 0) (cells := (GScored.enc Al)) (b := b2) (T := 38) rfl (ne_nil (e' := .blk b2 (GScored.enc Al) 38))).kept hw))) ?_;clear S;intro a S
   refine d_loud1 2 (by kernel_rfl) rfl (l_enter S (fun _ => run_callV (cap := []) (S.tm rfl) (vs := [.agg (GScored.enc Ak).toArray]) ⟨(S.tm rfl), trivial⟩ Tryz.call53) (tumbref2_ScoredOrder_c1_ok _ Ak _ rfl) rfl ?_);clear S;intro v9 a w13 hv9 hk13 hn9 S
   subst hv9
   refine Ld (d_next hk13 (d_loud1 5 (by kernel_rfl) rfl (l_enter S (fun _ => run_callV (cap := []) (S.tm rfl) (vs := [.agg (GScored.enc Al).toArray]) ⟨(S.tm rfl), trivial⟩ Tryz.call53) (tumbref2_ScoredOrder_c1_ok _ Al _ rfl) rfl ?_)));clear S;intro v10 a w14 hv10 hk14 hn10 S
   subst hv10
   refine Ld (d_next hk14 (d_quiet 6 S hsel rfl rfl rfl (by kernel_rfl) (by kernel_rfl) rfl (fun _ hw => (rn_sub (S.tm rfl) (S.tm rfl))) ?_));clear S;intro a S
   refine d_loud1 7 (by kernel_rfl) rfl (l_enter S (fun _ => run_call (vs := [iV (W ((tumbref2_ScoredOrder_c1 Ak) - (tumbref2_ScoredOrder_c1 Al)))]) ⟨(S.tm rfl), trivial⟩ Tryz.call55) (tumbref2_sign_ok _ (W ((tumbref2_ScoredOrder_c1 Ak) - (tumbref2_ScoredOrder_c1 Al))) _ rfl) rfl ?_);clear S;intro v11 a w15 hv11 hk15 hn11 S
   subst hv11
   refine Ld (d_next hk15 (d_rest [8] hsel (by kernel_rfl) rfl ?_))
   clear hsel
   refine s_lv S rfl (Ra (S.tm rfl)) rfl ?_;clear S;intro a S
   refine s_done ?_
   replace S := S.nk [] [(4, iV (tumbref2_sign (W ((tumbref2_ScoredOrder_c1 Ak) - (tumbref2_ScoredOrder_c1 Al)))))] [false, false] rfl ⟨rfl, trivial⟩
   refine Tn (wp_ret (blk_r (then_r ?_)))
   subst h
   exact f_ret S Tryz.results30 rfl rfl
  ·replace h := iteF h hb2
   refine wp_skip (blk_n (Tn (Fs (Fg (lv S (rn_fld fa_38_1 (S.tm rfl)) rfl ?_)))));clear S;intro a S
   refine lv S (rn_load Tryz.isAgg9 (S.tm rfl) (S.cell (i := 1) rfl rfl)) rfl ?_;clear S;intro a S
   refine lv S (rn_fld fa_38_1 (S.tm rfl)) rfl ?_;clear S;intro a S
   refine lv S (rn_load Tryz.isAgg9 (S.tm rfl) (S.cell (i := 0) rfl rfl)) rfl ?_;clear S;intro a S
   refine l_enter S (fun _ => run_call (vs := [sV Ak.Who, sV Al.Who]) ⟨(S.tm rfl), (S.tm rfl), trivial⟩ Tryz.call54) (strings_Compare_ok _ Ak.Who Al.Who _ rfl) rfl ?_;clear S;intro v12 a w16 hv12 hk16 hn12 S
   subst hv12
   refine lv S (Ra (S.tm rfl)) rfl ?_;clear S;intro a S
   refine Ld (Tn (wp_ret ?_))
   subst h
   exact f_ret S Tryz.results30 rfl rfl
set_option maxRecDepth 20000 in
theorem slices_insertionSortCmpFunc_Scored_tumbref2_ScoredOrder_ok (w : World) (Ab : Value) (Av : List GScored) (Bv : (LEnt.own Ab 38 5 Av.length (Av.flatMap GScored.enc)).holds w) (Ak : Int) (Al : Int) (r : (List GScored)) (h : slices_insertionSortCmpFunc_Scored_tumbref2_ScoredOrder Av Ak Al = some r) :
    Calls Tryz.prog 95 [Ab, iV Ak, iV Al, .func (.func 30) #[] #[]].toArray w (Ret w (Ab.ownBlock.toList) fun _ v w' => (LEnt.own Ab 38 5 r.length (r.flatMap GScored.enc)).holds w' ∧ v = .tuple #[]) := by
 refine f_enter (Ab.ownBlock.toList) [.own Ab 38 5 Av.length (Av.flatMap GScored.enc)] Tryz.func95 rfl Tryz.ntmps95 rfl (fun e he => by simp only [List.mem_singleton] at he;subst he;exact Bv) (fps_one_nodup _) (fps_one_sub _) fun a S => ?_
 unfold slices_insertionSortCmpFunc_Scored_tumbref2_ScoredOrder at h
 replace S := S.nk [.own Ab 38 5 Av.length (Av.flatMap GScored.enc)] [(0, Ab), (1, iV Ak), (2, iV Al), (3, .func (.func 30) #[] #[])] [true] rfl (subR rfl)
 refine Fs (Fg (lv S (Rm (S.tm rfl)) rfl ?_));clear S;intro a S
 refine lv S (rn_add (S.tm rfl) rfl) rfl ?_;clear S;intro a S
 refine lv S (Ra (S.tm rfl)) rfl ?_;clear S;intro a S
 refine Ld (Tn ?_)
 replace S := S.nk [.own Ab 38 5 Av.length (Av.flatMap GScored.enc)] [(0, Ab), (1, iV Ak), (2, iV Al), (3, .func (.func 30) #[] #[]), (8, iV (W (Ak + 1)))] [true] rfl (subR rfl)
 obtain ⟨j1, hj1, h⟩ := joinE h
 refine f_join (fun a w' => ∃ x1 : List GScored, j1 x1 = some r ∧ Sx w (Ab.ownBlock.toList) nov [.own Ab 38 5 x1.length (x1.flatMap GScored.enc)] [] 53 a w') ?_ ?_
 ·refine wp_block (f_loop (fun (m1 : Nat) a w' => ∃ x1 : List GScored, ∃ x2 : Int, slices_insertionSortCmpFunc_Scored_tumbref2_ScoredOrder_l1 Al Ak j1 m1 x1 x2 = some r ∧ Sx w (Ab.ownBlock.toList) nov [.own Ab 38 5 x1.length (x1.flatMap GScored.enc)] [(0, Ab), (1, iV Ak), (2, iV Al), (3, .func (.func 30) #[] #[]), (8, iV x2)] 53 a w') id ((Al - (W (Ak + 1))).toNat + 2) ⟨Av, W (Ak + 1), h, S.nf [true] rfl (subR rfl)⟩ ?_)
  clear S h;rintro m1 a w1 ⟨x1, x2, h, S⟩
  cases m1 with
  | zero => rw [slices_insertionSortCmpFunc_Scored_tumbref2_ScoredOrder_l1.eq_1] at h;cases h
  | succ m1 =>
   rw [slices_insertionSortCmpFunc_Scored_tumbref2_ScoredOrder_l1.eq_2] at h
   refine Fs (Fs (Fg (lv S (Rm (S.tm rfl)) rfl ?_)));clear S;intro a S
   refine lv S (Rm (S.tm rfl)) rfl ?_;clear S;intro a S
   refine lv S (rn_lss (S.tm rfl) (S.tm rfl)) rfl ?_;clear S;intro a S
   refine Ld (Tn (f_cond (S.tm rfl) (fun hb1 => ?_) (fun hb1 => ?_)))
   ·replace h := iteT h hb1
    refine wp_skip (Tn (Fs (wp_block (Fs (Fg (lv S (Rm (S.tm rfl)) rfl ?_))))));clear S;intro a S
    refine lv S (Ra (S.tm rfl)) rfl ?_;clear S;intro a S
    refine Ld (Tn ?_)
    replace S := S.nk [.own Ab 38 5 x1.length (x1.flatMap GScored.enc)] [(0, Ab), (1, iV Ak), (2, iV Al), (3, .func (.func 30) #[] #[]), (8, iV x2), (9, iV x2)] [true] rfl (subR rfl)
    obtain ⟨j2, hj2, h⟩ := joinE h
    refine f_join (fun a w' => ∃ x3 : List GScored, j2 x3 = some r ∧ Sx w (Ab.ownBlock.toList) nov [.own Ab 38 5 x3.length (x3.flatMap GScored.enc)] [(0, Ab), (1, iV Ak), (2, iV Al), (3, .func (.func 30) #[] #[]), (8, iV x2)] 53 a w') ?_ ?_
    ·refine wp_block (f_loop (fun (m2 : Nat) a w' => ∃ x3 : List GScored, ∃ x4 : Int, slices_insertionSortCmpFunc_Scored_tumbref2_ScoredOrder_l2 Ak j2 m2 x3 x4 = some r ∧ Sx w (Ab.ownBlock.toList) nov [.own Ab 38 5 x3.length (x3.flatMap GScored.enc)] [(0, Ab), (1, iV Ak), (2, iV Al), (3, .func (.func 30) #[] #[]), (8, iV x2), (9, iV x4)] 53 a w') id ((x2 - Ak).toNat + 2) ⟨x1, x2, h, S.nf [true] rfl (subR rfl)⟩ ?_)
     clear S h;rintro m2 a w3 ⟨x3, x4, h, S⟩
     cases m2 with
     | zero => rw [slices_insertionSortCmpFunc_Scored_tumbref2_ScoredOrder_l2.eq_1] at h;cases h
     | succ m2 =>
      rw [slices_insertionSortCmpFunc_Scored_tumbref2_ScoredOrder_l2.eq_2] at h
      refine Fs (Fs ?_)
      obtain ⟨j3, hj3, h⟩ := joinE h
      refine f_join (fun a w' => ∃ x5 : Bool, j3 x5 = some r ∧ Sx w (Ab.ownBlock.toList) nov [.own Ab 38 5 x3.length (x3.flatMap GScored.enc)] [(0, Ab), (1, iV Ak), (2, iV Al), (3, .func (.func 30) #[] #[]), (8, iV x2), (9, iV x4), (34, bV x5)] 53 a w') ?_ ?_
      ·rcases Bool.eq_false_or_eq_true (decide (Ak < x4)) with hb2 | hb2
       ·replace h := iteT h hb2
        obtain ⟨hc1, h⟩ := chkE h
        obtain ⟨hc2, h⟩ := chkE h
        refine d_region [] ([]) Tryz.mixed S rfl (by kernel_rfl) ?_;clear S;intro w7 hk2 hsel S
        refine d_quiet 0 S hsel rfl rfl rfl (by kernel_rfl) (by kernel_rfl) rfl (fun _ hw => (Rm (S.tm rfl))) ?_;clear S;intro a S
        refine d_quiet 1 S hsel rfl rfl rfl (by kernel_rfl) (by kernel_rfl) rfl (fun _ hw => (Rm (S.tm rfl))) ?_;clear S;intro a S
        refine d_quiet 2 S hsel rfl rfl rfl (by kernel_rfl) (by kernel_rfl) rfl (fun _ hw => (rn_gtr (S.tm rfl) (S.tm rfl))) ?_;clear S;intro a S
        refine d_quiet 3 S hsel rfl rfl rfl (by kernel_rfl) (by kernel_rfl) rfl (fun _ hw => (Rm (S.tm rfl))) ?_;clear S;intro a S
        refine d_quiet_g 4 S hsel rfl rfl rfl rfl hb2 rfl rfl (by kernel_rfl) (by kernel_rfl) rfl (fun _ hw => (Rm (S.tm rfl))) ?_;clear S;intro a S
        refine d_quiet_g 5 S hsel rfl rfl rfl rfl hb2 rfl rfl (by kernel_rfl) (by kernel_rfl) rfl (fun _ hw => (Rm (S.tm rfl))) ?_;clear S;intro a S
        refine d_quiet_g 6 S hsel rfl rfl rfl rfl hb2 rfl rfl (by kernel_rfl) (by kernel_rfl) rfl (fun _ hw => (Rm (S.tm rfl))) ?_;clear S;intro a S
        obtain ⟨b3, hg3, hr3⟩ := rn_indexS (a := a) (x := .tmp 23) (y := .tmp 24) (ty := 0) sl_26 GScored.enc_ok S (i := 0) rfl (inB_get hc1).1 (inB_get hc1).2 (S.tm rfl) (S.tm rfl)
        refine d_quiet_g 7 S hsel rfl rfl rfl rfl hb2 rfl rfl (by kernel_rfl) (by kernel_rfl) rfl (fun _ hw => (hr3 _)) ?_;clear S;intro a S
        clear hr3
        refine d_quiet_g 8 S hsel rfl rfl rfl rfl hb2 rfl rfl (by kernel_rfl) (by kernel_rfl) rfl (fun _ hw => (rn_ldA Tryz.isAgg38 Tryz.sizeOf38 (off := x4.toNat * 5) (o := 0) (part := (GScored.enc (nth x3 x4))) rfl rfl (S.tm rfl) ((own_mem GScored.enc_ok S (i := 0) rfl hg3 (inB_get hc1).1 (ne_nil (e' := .own Ab 38 5 x3.length (x3.flatMap GScored.enc)))).kept hw))) ?_;clear S;intro a S
        refine d_quiet_g 9 S hsel rfl rfl rfl rfl hb2 rfl rfl (by kernel_rfl) (by kernel_rfl) rfl (fun _ hw => (Rm (S.tm rfl))) ?_;clear S;intro a S
        refine d_quiet_g 10 S hsel rfl rfl rfl rfl hb2 rfl rfl (by kernel_rfl) (by kernel_rfl) rfl (fun _ hw => (Rm (S.tm rfl))) ?_;clear S;intro a S
        refine d_quiet_g 11 S hsel rfl rfl rfl rfl hb2 rfl rfl (by kernel_rfl) (by kernel_rfl) rfl (fun _ hw => (rn_sub (S.tm rfl) rfl)) ?_;clear S;intro a S
        obtain ⟨b4, hg4, hr4⟩ := rn_indexS (a := a) (x := .tmp 27) (y := .tmp 29) (ty := 0) sl_26 GScored.enc_ok S (i := 0) rfl (inB_get hc2).1 (inB_get hc2).2 (S.tm rfl) (S.tm rfl)
        refine d_quiet_g 12 S hsel rfl rfl rfl rfl hb2 rfl rfl (by kernel_rfl) (by kernel_rfl) rfl (fun _ hw => (hr4 _)) ?_;clear S;intro a S
        clear hr4
        refine d_quiet_g 13 S hsel rfl rfl rfl rfl hb2 rfl rfl (by kernel_rfl) (by kernel_rfl) rfl (fun _ hw => (rn_ldA Tryz.isAgg38 Tryz.sizeOf38 (off := ((W (x4 - 1)).toNat) * 5) (o := 0) (part := (GScored.enc (nth x3 (W (x4 - 1))))) rfl rfl (S.tm rfl) ((own_mem GScored.enc_ok S (i := 0) rfl hg4 (inB_get hc2).1 (ne_nil (e' := .own Ab 38 5 x3.length (x3.flatMap GScored.enc)))).kept hw))) ?_;clear S;intro a S
        refine d_loud1 14 (by kernel_rfl) rfl (l_want S rfl rfl rfl hb2 (l_enter S (fun _ => run_callV (cap := []) (S.tm rfl) (vs := [.agg (GScored.enc (nth x3 x4)).toArray, .agg (GScored.enc (nth x3 (W (x4 - 1)))).toArray]) ⟨(S.tm rfl), (S.tm rfl), trivial⟩ Tryz.call30) (tumbref2_ScoredOrder_ok _ (nth x3 x4) (nth x3 (W (x4 - 1))) _ rfl) rfl ?_));clear S;intro v2 a w8 hv2 hk3 hn2 S
        subst hv2
        refine Ld (d_next hk3 (d_rest [15, 16] hsel (by kernel_rfl) rfl ?_))
        clear hsel
        refine s_want S rfl rfl rfl rfl hb2 (s_lv0 S (rn_lss (S.tm rfl) rfl) rfl ?_);clear S;intro a S
        refine s_lv S rfl (rn_pick_b hb2 (S.tm rfl) (S.tm rfl)) rfl ?_;clear S;intro a S
        refine s_done ?_
        replace S := S.nk [.own Ab 38 5 x3.length (x3.flatMap GScored.enc)] [(0, Ab), (1, iV Ak), (2, iV Al), (3, .func (.func 30) #[] #[]), (8, iV x2), (9, iV x4), (22, .func (.func 30) #[] #[]), (23, Ab), (24, iV x4), (25, .pointer (some ⟨b3, x4.toNat * 5, none⟩)), (26, .agg (GScored.enc (nth x3 x4)).toArray), (27, Ab), (28, iV x4), (29, iV (W (x4 - 1))), (30, .pointer (some ⟨b4, ((W (x4 - 1)).toNat) * 5, none⟩)), (31, .agg (GScored.enc (nth x3 (W (x4 - 1)))).toArray), (32, iV (tumbref2_ScoredOrder (nth x3 x4) (nth x3 (W (x4 - 1))))), (33, bV (decide ((tumbref2_ScoredOrder (nth x3 x4) (nth x3 (W (x4 - 1)))) < 0))), (34, bV (decide ((tumbref2_ScoredOrder (nth x3 x4) (nth x3 (W (x4 - 1)))) < 0)))] [true] rfl (subR rfl)
        refine Tn ?_
        exact ⟨decide ((tumbref2_ScoredOrder (nth x3 x4) (nth x3 (W (x4 - 1)))) < 0), h, S.nf [true] rfl (subR rfl)⟩
       ·replace h := iteF h hb2
        refine d_region [] ([]) Tryz.mixed S rfl (by kernel_rfl) ?_;clear S;intro w9 hk4 hsel S
        refine d_rest [0, 1, 2, 3, 4, 5, 6, 7, 8, 9, 10, 11, 12, 13, 14, 15, 16] hsel (by kernel_rfl) rfl ?_
        clear hsel
        refine s_lv S rfl (Rm (S.tm rfl)) rfl ?_;clear S;intro a S
        refine s_lv S rfl (Rm (S.tm rfl)) rfl ?_;clear S;intro a S
        refine s_lv S rfl (rn_gtr (S.tm rfl) (S.tm rfl)) rfl ?_;clear S;intro a S
        refine s_lv S rfl (Rm (S.tm rfl)) rfl ?_;clear S;intro a S
        iterate 12 (refine s_skip S rfl rfl rfl rfl (neq_f hb2) rfl ?_ rfl;clear S;intro a S)
        refine s_lv S rfl (rn_pick_c hb2 (S.tm rfl) rfl) rfl ?_;clear S;intro a S
        refine s_done ?_
        replace S := S.nk [.own Ab 38 5 x3.length (x3.flatMap GScored.enc)] [(0, Ab), (1, iV Ak), (2, iV Al), (3, .func (.func 30) #[] #[]), (8, iV x2), (9, iV x4), (34, bV false)] [true] rfl (subR rfl)
        refine Tn ?_
        exact ⟨false, h, S.nf [true] rfl (subR rfl)⟩
      clear S h;rintro a w5 ⟨x5, h, S⟩;rw [hj3] at h;clear hj3 j3
      refine Tn (f_cond (S.tm rfl) (fun hb3 => ?_) (fun hb3 => ?_))
      ·replace h := iteT h hb3
       refine wp_skip (Tn (Fs (wp_block ?_)))
       obtain ⟨hc3, h⟩ := chkE h
       obtain ⟨hc4, h⟩ := chkE h
       obtain ⟨hc5, h⟩ := chkE h
       obtain ⟨hc6, h⟩ := chkE h
       refine d_region [15, 17] ([]) Tryz.mixed S rfl (by kernel_rfl) ?_;clear S;intro w14 hk9 hsel S
       refine d_pure 0 S hsel rfl rfl (by kernel_rfl) (by kernel_rfl) rfl (fun _ => (Rm (S.tm rfl))) ?_;clear S;intro a S
       refine d_pure 1 S hsel rfl rfl (by kernel_rfl) (by kernel_rfl) rfl (fun _ => (Rm (S.tm rfl))) ?_;clear S;intro a S
       refine d_pure 2 S hsel rfl rfl (by kernel_rfl) (by kernel_rfl) rfl (fun _ => (Rm (S.tm rfl))) ?_;clear S;intro a S
       refine d_pure 3 S hsel rfl rfl (by kernel_rfl) (by kernel_rfl) rfl (fun _ => (Rm (S.tm rfl))) ?_;clear S;intro a S
       refine d_pure 4 S hsel rfl rfl (by kernel_rfl) (by kernel_rfl) rfl (fun _ => (rn_sub (S.tm rfl) rfl)) ?_;clear S;intro a S
       refine d_pure 5 S hsel rfl rfl (by kernel_rfl) (by kernel_rfl) rfl (fun _ => (Rm (S.tm rfl))) ?_;clear S;intro a S
       refine d_pure 6 S hsel rfl rfl (by kernel_rfl) (by kernel_rfl) rfl (fun _ => (Rm (S.tm rfl))) ?_;clear S;intro a S
       refine d_pure 7 S hsel rfl rfl (by kernel_rfl) (by kernel_rfl) rfl (fun _ => (rn_sub (S.tm rfl) rfl)) ?_;clear S;intro a S
       obtain ⟨b9, hg9, hr9⟩ := rn_indexS (a := a) (x := .tmp 42) (y := .tmp 44) (ty := 0) sl_26 GScored.enc_ok S (i := 0) rfl (inB_get hc3).1 (inB_get hc3).2 (S.tm rfl) (S.tm rfl)
       refine d_pure 8 S hsel rfl rfl (by kernel_rfl) (by kernel_rfl) rfl (fun _ => (hr9 _)) ?_;clear S;intro a S
       clear hr9
       refine d_quiet 9 S hsel rfl (by kernel_rfl) (by kernel_rfl) (by kernel_rfl) (by kernel_rfl) rfl (fun _ hw => (rn_ldA Tryz.isAgg38 Tryz.sizeOf38 (off := ((W (x4 - 1)).toNat) * 5) (o := 0) (part := (GScored.enc (nth x3 (W (x4 - 1))))) rfl rfl (S.tm rfl) ((own_mem GScored.enc_ok S (i := 0) rfl hg9 (inB_get hc3).1 (ne_nil (e' := .own Ab 38 5 x3.length (x3.flatMap GScored.enc)))).kept hw))) ?_;clear S;intro a S
       refine d_pure 10 S hsel rfl rfl (by kernel_rfl) (by kernel_rfl) rfl (fun _ => (Rm (S.tm rfl))) ?_;clear S;intro a S
       refine d_pure 11 S hsel rfl rfl (by kernel_rfl) (by kernel_rfl) rfl (fun _ => (Rm (S.tm rfl))) ?_;clear S;intro a S
       obtain ⟨b10, hg10, hr10⟩ := rn_indexS (a := a) (x := .tmp 47) (y := .tmp 48) (ty := 0) sl_26 GScored.enc_ok S (i := 0) rfl (inB_get hc4).1 (inB_get hc4).2 (S.tm rfl) (S.tm rfl)
       refine d_pure 12 S hsel rfl rfl (by kernel_rfl) (by kernel_rfl) rfl (fun _ => (hr10 _)) ?_;clear S;intro a S
       clear hr10
       refine d_quiet 13 S hsel rfl (by kernel_rfl) (by kernel_rfl) (by kernel_rfl) (by kernel_rfl) rfl (fun _ hw => (rn_ldA Tryz.isAgg38 Tryz.sizeOf38 (off := x4.toNat * 5) (o := 0) (part := (GScored.enc (nth x3 x4))) rfl rfl (S.tm rfl) ((own_mem GScored.enc_ok S (i := 0) rfl hg10 (inB_get hc4).1 (ne_nil (e' := .own Ab 38 5 x3.length (x3.flatMap GScored.enc)))).kept hw))) ?_;clear S;intro a S
       obtain ⟨b11, hg11, hr11⟩ := rn_indexS (a := a) (x := .tmp 37) (y := .tmp 38) (ty := 0) sl_26 GScored.enc_ok S (i := 0) rfl (inB_get hc5).1 (inB_get hc5).2 (S.tm rfl) (S.tm rfl)
       refine d_pure 14 S hsel rfl rfl (by kernel_rfl) (by kernel_rfl) rfl (fun _ => (hr11 _)) ?_;clear S;intro a S
       clear hr11
       refine d_loudB 15 (Ab.ownBlock.toList) rfl (by kernel_rfl) rfl (l_storeO (c := 0) (j := x4.toNat) (nth x3 (W (x4 - 1))) GScored.enc_ok S (S.tm rfl) (S.tm rfl) (i := 0) rfl hg11 (inB_get hc5).1 Tryz.sizeOf38 (vs := [sV ((nth x3 (W (x4 - 1))).Race), sV ((nth x3 (W (x4 - 1))).Who), sV ((nth x3 (W (x4 - 1))).Club), iV ((nth x3 (W (x4 - 1))).Rank), bV ((nth x3 (W (x4 - 1))).Relay)]) rfl rfl rfl rfl rfl ?_);clear S;intro w16 hk11 S
       refine Ld (d_nextB ?_)
       obtain ⟨b12, hg12, hr12⟩ := rn_indexS (a := a) (x := .tmp 39) (y := .tmp 41) (ty := 0) sl_26 GScored.enc_ok S (i := 0) rfl (inB_get hc6).1 (inB_get hc6).2 (S.tm rfl) (S.tm rfl)
       refine d_quiet 16 S hsel rfl rfl rfl (by kernel_rfl) (by kernel_rfl) rfl (fun _ hw => (hr12 _)) ?_;clear S;intro a S
       clear hr12
       refine d_loud1 17 (by kernel_rfl) rfl (l_storeO (c := 0) (j := (W (x4 - 1)).toNat) (nth x3 x4) GScored.enc_ok S (S.tm rfl) (S.tm rfl) (i := 0) rfl hg12 (inB_get hc6).1 Tryz.sizeOf38 (vs := [sV ((nth x3 x4).Race), sV ((nth x3 x4).Who), sV ((nth x3 x4).Club), iV ((nth x3 x4).Rank), bV ((nth x3 x4).Relay)]) rfl rfl rfl rfl rfl ?_);clear S;intro w18 hk13 S
       refine Ld (d_next hk13 (d_end (by kernel_rfl) ?_))
       clear hsel
       replace S := S.nk [.own Ab 38 5 ((x3.set x4.toNat (nth x3 (W (x4 - 1)))).set ((W (x4 - 1)).toNat) (nth x3 x4)).length (((x3.set x4.toNat (nth x3 (W (x4 - 1)))).set ((W (x4 - 1)).toNat) (nth x3 x4)).flatMap GScored.enc)] [(0, Ab), (1, iV Ak), (2, iV Al), (3, .func (.func 30) #[] #[]), (8, iV x2), (9, iV x4)] [true] rfl (subR rfl)
       refine blk_n (Tn (Fg (lv S (Rm (S.tm rfl)) rfl ?_)));clear S;intro a S
       refine lv S (rn_sub (S.tm rfl) rfl) rfl ?_;clear S;intro a S
       refine lv S (Ra (S.tm rfl)) rfl ?_;clear S;intro a S
       refine Ld (Tn ?_)
       exact ⟨m2, ⟨((x3.set x4.toNat (nth x3 (W (x4 - 1)))).set ((W (x4 - 1)).toNat) (nth x3 x4)), W (x4 - 1), h, S.nf [true] rfl ⟨rfl, rfl, rfl, rfl, rfl, rfl, trivial⟩⟩, Nat.lt_succ_self _⟩
      ·replace h := iteF h hb3
       refine wp_exit (then_x (then_x (x_same (Tn ?_))))
       exact ⟨x3, h, S.nf [true] rfl (subR rfl)⟩
    clear S h;rintro a w4 ⟨x3, h, S⟩;rw [hj2] at h;clear hj2 j2
    refine blk_n (Tn (Fg (lv S (Rm (S.tm rfl)) rfl ?_)));clear S;intro a S
    refine lv S (rn_add (S.tm rfl) rfl) rfl ?_;clear S;intro a S
    refine lv S (Ra (S.tm rfl)) rfl ?_;clear S;intro a S
    refine Ld (Tn ?_)
    exact ⟨m1, ⟨x3, W (x2 + 1), h, S.nf [true] rfl ⟨rfl, rfl, rfl, rfl, rfl, trivial⟩⟩, Nat.lt_succ_self _⟩
   ·replace h := iteF h hb1
    refine wp_exit (then_x (then_x (x_same (Tn ?_))))
    exact ⟨x1, h, S.nf [true] rfl trivial⟩
 clear S h;rintro a w2 ⟨x1, h, S⟩;rw [hj1] at h;clear hj1 j1
 obtain rfl := Option.some.inj h
 exact f_ret0 S Tryz.results95 ⟨(S.holds _ (List.mem_of_getElem? (i := 0) rfl)), rfl⟩
theorem slices_pdqsortCmpFunc_Scored_tumbref2_ScoredOrder_ok (w : World) (Ab : Value) (Av : List GScored) (Bv : (LEnt.own Ab 38 5 Av.length (Av.flatMap GScored.enc)).holds w) (Ak : Int) (Al : Int) (Bt : Int) (r : (List GScored)) (h : slices_pdqsortCmpFunc_Scored_tumbref2_ScoredOrder Av Ak Al Bt = some r) :
    Calls Tryz.prog 67 [Ab, iV Ak, iV Al, iV Bt, .func (.func 30) #[] #[]].toArray w (Ret w (Ab.ownBlock.toList) fun _ v w' => (LEnt.own Ab 38 5 r.length (r.flatMap GScored.enc)).holds w' ∧ v = .tuple #[]) := by
 refine f_enter (Ab.ownBlock.toList) [.own Ab 38 5 Av.length (Av.flatMap GScored.enc)] Tryz.func67 rfl Tryz.ntmps67 rfl (fun e he => by simp only [List.mem_singleton] at he;subst he;exact Bv) (fps_one_nodup _) (fps_one_sub _) fun a S => ?_
 unfold slices_pdqsortCmpFunc_Scored_tumbref2_ScoredOrder at h
 replace S := S.nk [.own Ab 38 5 Av.length (Av.flatMap GScored.enc)] [(0, Ab), (1, iV Ak), (2, iV Al), (3, iV Bt), (4, .func (.func 30) #[] #[])] [true] rfl (subR rfl)
 refine Fs (Fg (lv S (Ra rfl) rfl ?_));clear S;intro a S
 refine Ld (Tn (Fs (Fg (lv S (Ra rfl) rfl ?_))));clear S;intro a S
 refine Ld (Tn ?_)
 replace S := S.nk [.own Ab 38 5 Av.length (Av.flatMap GScored.enc)] [(0, Ab), (1, iV Ak), (2, iV Al), (3, iV Bt), (4, .func (.func 30) #[] #[]), (10, bV true)] [true] rfl (subR rfl)
 refine f_join (fun a w' => False) ?_ ?_
 ·refine wp_block (f_loop (fun (m1 : Nat) a w' => ∃ x1 : Int, ∃ x2 : Int, ∃ x3 : Int, ∃ x4 : Bool, slices_pdqsortCmpFunc_Scored_tumbref2_ScoredOrder_l1 Av m1 x1 x2 x3 x4 = some r ∧ Sx w (Ab.ownBlock.toList) nov [.own Ab 38 5 Av.length (Av.flatMap GScored.enc)] [(0, Ab), (1, iV x1), (2, iV x2), (3, iV x3), (4, .func (.func 30) #[] #[]), (10, bV x4)] 148 a w') id 4611686018427387904 ⟨Ak, Al, Bt, true, h, S.nf [true] rfl (subR rfl)⟩ ?_)
  clear S h;rintro m1 a w1 ⟨x1, x2, x3, x4, h, S⟩
  cases m1 with
  | zero => rw [slices_pdqsortCmpFunc_Scored_tumbref2_ScoredOrder_l1.eq_1] at h;cases h
  | succ m1 =>
   rw [slices_pdqsortCmpFunc_Scored_tumbref2_ScoredOrder_l1.eq_2] at h
   refine wp_block (Fs (Fg (lv S (Rm (S.tm rfl)) rfl ?_)));clear S;intro a S
   refine lv S (Rm (S.tm rfl)) rfl ?_;clear S;intro a S
   refine lv S (rn_sub (S.tm rfl) (S.tm rfl)) rfl ?_;clear S;intro a S
   refine lv S (Ra (S.tm rfl)) rfl ?_;clear S;intro a S
   refine Ld (Tn (Fs (Fs (Fg (lv S (Rm (S.tm rfl)) rfl ?_)))));clear S;intro a S
   refine lv S (rn_leq (S.tm rfl) rfl) rfl ?_;clear S;intro a S
   refine Ld (Tn (f_cond (S.tm rfl) (fun hb1 => ?_) (fun hb1 => ?_)))
   ·replace h := iteT h hb1
    refine Fs (Fg (lv S (Rm (S.tm rfl)) rfl ?_));clear S;intro a S
    iterate 3 (refine lv S (Rm (S.tm rfl)) rfl ?_;clear S;intro a S)
    obtain ⟨r1, hr1, h⟩ := bindE h
    refine l_enterO 0 S rfl (fun _ => .own Ab 38 5 r1.length (r1.flatMap GScored.enc)) (fun _ => run_call (vs := [Ab, iV x1, iV x2, .func (.func 30) #[] #[]]) ⟨(S.tm rfl), (S.tm rfl), (S.tm rfl), (S.tm rfl), trivial⟩ Tryz.call95) (slices_insertionSortCmpFunc_Scored_tumbref2_ScoredOrder_ok _ Ab Av (S.holds _ (List.mem_of_getElem? (i := 0) rfl)) x1 x2 _ hr1) rfl (fun _ _ _ h => ⟨h.1, fun _ hc => hc⟩) ?_;clear S;intro v1 a w3 hv1 hk1 hn1 S
    replace hv1 := hv1.2
    subst hv1
    refine Ld ?_
    replace S := S.nk [.own Ab 38 5 r1.length (r1.flatMap GScored.enc)] [] [true] rfl trivial
    refine Tn (wp_ret (then_r (blk_r (then_r (blk_r (then_r ?_))))))
    obtain rfl := Option.some.inj h
    exact f_ret0 S Tryz.results67 ⟨(S.holds _ (List.mem_of_getElem? (i := 0) rfl)), rfl⟩
   ·replace h := iteF h hb1
    refine wp_skip (Tn (Fs (Fs (Fg (lv S (Rm (S.tm rfl)) rfl ?_)))));clear S;intro a S
    refine lv S (rn_eql (S.tm rfl) rfl) rfl ?_;clear S;intro a S
    refine Ld (Tn (f_cond (S.tm rfl) (fun hb2 => ?_) (fun hb2 => ?_)))
    ·replace h := iteT h hb2
     refine Fs ?_
     cases h
    ·replace h := iteF h hb2
     refine wp_skip (Tn (Fs (Fs (Fg (lv S (Rm (S.tm rfl)) rfl ?_)))));clear S;intro a S
     refine lv S (rn_not (S.tm rfl)) rfl ?_;clear S;intro a S
     refine Ld ?_
     replace S := S.nk [.own Ab 38 5 Av.length (Av.flatMap GScored.enc)] [(39, bV (!x4))] [true] rfl ⟨rfl, trivial⟩
     refine Tn (f_cond (S.tm rfl) (fun hb3 => ?_) (fun hb3 => ?_))
     ·replace h := iteT h hb3
      refine Fs ?_
      cases h
     ·replace h := iteF h hb3
      refine wp_skip (Tn (Fs ?_))
      cases h
 exact fun _ _ h => h.elim
theorem slices_SortFunc_Scored_tumbref2_ScoredOrder_ok (w : World) (Bl : Value) (Aq : List GScored) (Cg : (LEnt.own Bl 38 5 Aq.length (Aq.flatMap GScored.enc)).holds w) (r : (List GScored)) (h : slices_SortFunc_Scored_tumbref2_ScoredOrder Aq = some r) :
    Calls Tryz.prog 43 [Bl, .func (.func 30) #[] #[]].toArray w (Ret w (Bl.ownBlock.toList) fun _ v w' => (LEnt.own Bl 38 5 r.length (r.flatMap GScored.enc)).holds w' ∧ v = .tuple #[]) := by
 refine f_enter (Bl.ownBlock.toList) [.own Bl 38 5 Aq.length (Aq.flatMap GScored.enc)] Tryz.func43 rfl Tryz.ntmps43 rfl (fun e he => by simp only [List.mem_singleton] at he;subst he;exact Cg) (fps_one_nodup _) (fps_one_sub _) fun a S => ?_
 unfold slices_SortFunc_Scored_tumbref2_ScoredOrder at h
 replace S := S.nk [.own Bl 38 5 Aq.length (Aq.flatMap GScored.enc)] [(0, Bl), (1, .func (.func 30) #[] #[])] [true] rfl (subR rfl)
 refine Fs (Fg (lv S (Rm (S.tm rfl)) rfl ?_));clear S;intro a S
 refine lv S (rn_lenT sl_26 (S.tm rfl) (own_len (S.own_at (i := 0) rfl))) rfl ?_;clear S;intro a S
 refine lv S (Ra (S.tm rfl)) rfl ?_;clear S;intro a S
 refine Ld (Tn (Fg (lv S (Rm (S.tm rfl)) rfl ?_)));clear S;intro a S
 refine lv S (Rm (S.tm rfl)) rfl ?_;clear S;intro a S
 refine lv S (Rm (S.tm rfl)) rfl ?_;clear S;intro a S
 refine lv S (rn_conv Tryz.underlying3 Tryz.underlying92 (S.tm rfl)) rfl ?_;clear S;intro a S
 obtain ⟨r1, hr1, h⟩ := bindE h
 refine l_enter S (fun _ => run_call (vs := [.int .u64 (IntKind.wrap .u64 (Aq.length : Int))]) ⟨(S.tm rfl), trivial⟩ Tryz.call68) (bits_Len_ok _ (IntKind.wrap .u64 (Aq.length : Int)) _ hr1) rfl ?_;clear S;intro v1 a w1 hv1 hk1 hn1 S
 subst hv1
 refine lv S (Rm (S.tm rfl)) rfl ?_;clear S;intro a S
 obtain ⟨r2, hr2, h⟩ := bindE h
 refine l_enterO 0 S rfl (fun _ => .own Bl 38 5 r2.length (r2.flatMap GScored.enc)) (fun _ => run_call (vs := [Bl, iV 0, iV (Aq.length : Int), iV r1, .func (.func 30) #[] #[]]) ⟨(S.tm rfl), rfl, (S.tm rfl), (S.tm rfl), (S.tm rfl), trivial⟩ Tryz.call67) (slices_pdqsortCmpFunc_Scored_tumbref2_ScoredOrder_ok _ Bl Aq (S.holds _ (List.mem_of_getElem? (i := 0) rfl)) 0 (Aq.length : Int) r1 _ hr2) rfl (fun _ _ _ h => ⟨h.1, fun _ hc => hc⟩) ?_;clear S;intro v2 a w2 hv2 hk2 hn2 S
 replace hv2 := hv2.2
 subst hv2
 refine Ld ?_
 obtain rfl := Option.some.inj h
 exact f_ret0 S Tryz.results43 ⟨(S.holds _ (List.mem_of_getElem? (i := 0) rfl)), rfl⟩
theorem Stream_RightScored_ok (w : World) (O : Nat) (U : Value) (Ae : List Int) (Ag : Slc (view w [O]) 1 U (Ae.map eInt)) (Aa : Int) (Aw : (LEnt.blk O [U, iV Aa] 25).holds w) (r : (List GScored) × Int) (h : Stream_RightScored Ae Aa = some r) :
    Calls Tryz.prog 13 [.pointer (some ⟨O, 0, none⟩)].toArray w (Ret w [O] fun τ v w' => (LEnt.blk O [U, iV r.2] 25).holds w' ∧ OwnV τ 38 5 v r.1.length (r.1.flatMap GScored.enc)) := by
 refine f_enter [O] [.blk O [U, iV Aa] 25] Tryz.func13 rfl Tryz.ntmps13 rfl (fun e he => by simp only [List.mem_singleton] at he;subst he;exact Aw) (by simp [fps, LEnt.fp]) (by simp [fps, LEnt.fp]) fun a S => ?_
 unfold Stream_RightScored at h
 replace S := S.nk [.blk O [U, iV Aa] 25] [(0, .pointer (some ⟨O, 0, none⟩))] [true] rfl ⟨rfl, trivial⟩
 refine Fs (Fg (lv S (Ra rfl) rfl ?_));clear S;intro a S
 refine Ld (Tn (Fs (Fg (lv S (Ra rfl) rfl ?_))));clear S;intro a S
 replace S := S.nil 38 5
 refine Ld (Tn (Fs (Fs (Fg (l_buildSlice S Tryz.underlying59 Tryz.sizeOf9 Tryz.zeroValue9 rfl rfl (pv := [(0, sV k_ra), (1, sV k_rb), (2, sV k_rc)]) ⟨rfl, rfl, rfl, rfl, rfl, rfl, trivial⟩ (cs := [sV k_ra, sV k_rb, sV k_rc]) (by kernel_rfl) rfl ?_)))));clear S;intro a w1 b1 hz1 hk1 S
 refine lv S (rn_lenT sl_59 (S.tm rfl) ⟨_, _, rfl⟩) rfl ?_;clear S;intro a S
 refine lv S (Rm rfl) rfl ?_;clear S;intro a S
 refine Ld (Tn ?_)
 replace S := S.nk [.blk b1 [sV k_ra, sV k_rb, sV k_rc] 9, .own (.slice none 0 0) 38 5 ([] : List GScored).length (([] : List GScored).flatMap GScored.enc), .blk O [U, iV Aa] 25] [(0, .pointer (some ⟨O, 0, none⟩)), (3, (.slice none 0 0)), (16, .slice (some ⟨b1, 0, none⟩) 3 3), (17, iV (([k_ra, k_rb, k_rc] : List ByteArray).length : Int)), (18, iV 0)] [true, true, true] rfl (subR rfl)
 replace S := S.litOwn (i := 0) (xs := [k_ra, k_rb, k_rc]) rfl enc_str rfl rfl rfl
 replace S := S.nk [.own (.slice (some ⟨b1, 0, none⟩) 3 3) 9 1 ([k_ra, k_rb, k_rc] : List ByteArray).length (([k_ra, k_rb, k_rc] : List ByteArray).flatMap eStr), .own (.slice none 0 0) 38 5 ([] : List GScored).length (([] : List GScored).flatMap GScored.enc), .blk O [U, iV Aa] 25] [(0, .pointer (some ⟨O, 0, none⟩)), (3, (.slice none 0 0)), (16, (.slice (some ⟨b1, 0, none⟩) 3 3)), (17, iV (([k_ra, k_rb, k_rc] : List ByteArray).length : Int)), (18, iV 0)] [] rfl (subR rfl)
 obtain ⟨φ1, hl1, hs1, S⟩ := S.freezeT (xs := ([k_ra, k_rb, k_rc] : List ByteArray)) (enc := eStr) (i := 0) rfl (fun c hc hh => not_fps S (i := 2) rfl rfl (j := 0) rfl rfl (by simp at hc;subst hc;exact hh))
 replace S := S.nk [.own (.slice none 0 0) 38 5 ([] : List GScored).length (([] : List GScored).flatMap GScored.enc), .blk O [U, iV Aa] 25] [(0, .pointer (some ⟨O, 0, none⟩)), (3, (.slice none 0 0)), (16, (.slice (some ⟨b1, 0, none⟩) 3 3)), (17, iV (([k_ra, k_rb, k_rc] : List ByteArray).length : Int)), (18, iV 0)] [] rfl (subR rfl)
 obtain ⟨j1, hj1, h⟩ := joinE h
 refine f_join (fun a w' => ∃ x1 : List GScored, ∃ x2 : Int, ∃ φ2 : View, ∃ v1 : Value, j1 x1 x2 = some r ∧ View.le φ1 φ2 ∧ Sx w [O] φ2 [.own v1 38 5 x1.length (x1.flatMap GScored.enc), .blk O [U, iV x2] 25] [(3, v1)] 114 a w') ?_ ?_
 ·refine wp_block (f_loop (fun (ys1 : List ByteArray) a w' => ∃ i1 : Nat, ∃ x1 : List GScored, ∃ x2 : Int, ∃ φ2 : View, ∃ v1 : Value, (∃ dn, ([k_ra, k_rb, k_rc] : List ByteArray) = dn ++ ys1 ∧ dn.length = i1) ∧ Stream_RightScored_l1 Ae j1 ys1 i1 x1 x2 = some r ∧ View.le φ1 φ2 ∧ Sx w [O] φ2 [.own v1 38 5 x1.length (x1.flatMap GScored.enc), .blk O [U, iV x2] 25] [(0, .pointer (some ⟨O, 0, none⟩)), (3, v1), (16, (.slice (some ⟨b1, 0, none⟩) 3 3)), (17, iV (([k_ra, k_rb, k_rc] : List ByteArray).length : Int)), (18, iV (i1 : Int))] 114 a w') List.length ([k_ra, k_rb, k_rc] : List ByteArray) ⟨0, ([] : List GScored), Aa, φ1, (.slice none 0 0), ⟨[], rfl, rfl⟩, h, View.le_refl _, S.nf [true, true] rfl (subR rfl)⟩ ?_)
  clear S h;rintro ys1 a w2 ⟨i1, x1, x2, φ2, v1, ⟨dn, hd1, hi1⟩, h, hl2, S⟩
  cases ys1 with
  | nil =>
   rw [Stream_RightScored_l1.eq_1] at h
   refine Fs (Fg (lv S (rn_lss (S.tm rfl) (S.tm rfl)) rfl ?_));clear S;intro a S
   refine Ld ?_
   replace S := S.nk [.own v1 38 5 x1.length (x1.flatMap GScored.enc), .blk O [U, iV x2] 25] [(0, .pointer (some ⟨O, 0, none⟩)), (3, v1), (16, (.slice (some ⟨b1, 0, none⟩) 3 3)), (17, iV (([k_ra, k_rb, k_rc] : List ByteArray).length : Int)), (18, iV (i1 : Int)), (19, bV (decide ((i1 : Int) < (([k_ra, k_rb, k_rc] : List ByteArray).length : Int))))] [true, true] rfl (subR rfl)
   refine Tn (Fs (wp_cond_false ((S.tm rfl).trans (congrArg Value.bool (rng_nil hd1 hi1))) (wp_exit (then_x (then_x (x_same ?_))))))
   refine Tn ?_
   exact ⟨x1, x2, φ2, v1, h, hl2, S.nf [true, true] rfl ⟨rfl, trivial⟩⟩
  | cons y1 ys1 =>
   rw [Stream_RightScored_l1.eq_2] at h
   refine Fs (Fg (lv S (rn_lss (S.tm rfl) (S.tm rfl)) rfl ?_));clear S;intro a S
   refine Ld ?_
   replace S := S.nk [.own v1 38 5 x1.length (x1.flatMap GScored.enc), .blk O [U, iV x2] 25] [(0, .pointer (some ⟨O, 0, none⟩)), (3, v1), (16, (.slice (some ⟨b1, 0, none⟩) 3 3)), (17, iV (([k_ra, k_rb, k_rc] : List ByteArray).length : Int)), (18, iV (i1 : Int)), (19, bV (decide ((i1 : Int) < (([k_ra, k_rb, k_rc] : List ByteArray).length : Int))))] [true, true] rfl (subR rfl)
   refine Tn (Fs (wp_cond_true ((S.tm rfl).trans (congrArg Value.bool (rng_cons hd1 hi1))) (wp_skip (Tn (Fs (wp_block ?_))))))
   refine Fs (Fg ?_)
   obtain ⟨b2, o1, hm1, hr1⟩ := rn_indexT (a := a) (x := .tmp 16) (y := .tmp 18) (ty := 0) sl_59 (ownV_slcT enc_str hs1) (get_mid hd1 hi1) rfl (S.tm rfl) (S.tm rfl)
   refine lv S (hr1 _) rfl ?_;clear S;intro a S
   clear hr1
   refine lv S (rn_ld Tryz.isAgg9 (off := o1) (o := 0) (S.tm rfl) ((hm1.mono hl2).at S.emb) rfl) rfl ?_;clear S;intro a S
   refine lv S (Ra (S.tm rfl)) rfl ?_;clear S;intro a S
   refine Ld (Tn (Fs (Fg (lv S (Rm (S.tm rfl)) rfl ?_))));clear S;intro a S
   obtain ⟨r1, hr2, h⟩ := bindE h
   refine l_enter1 1 S (b := O) rfl rfl (fun _ => .blk O [U, iV r1.2] 25) (fun _ => run_call (vs := [.pointer (some ⟨O, 0, none⟩), iV 3]) ⟨(S.tm rfl), rfl, trivial⟩ Tryz.call14) (Stream_Flip_ok _ O U Ae (Ag.mono (S.le_arg (fp_sub (i := 1) (e := .blk O [U, iV x2] 25) rfl))) x2 (S.holds _ (List.mem_of_getElem? (i := 1) rfl)) 3 _ hr2) rfl (fun _ _ _ h => ⟨h.1, fun _ hc => by cases hc;rfl⟩) ?_;clear S;intro v2 a w4 hv1 hk2 hn1 S
   replace hv1 := hv1.2
   subst hv1
   refine lv S (Ra (S.tm rfl)) rfl ?_;clear S;intro a S
   refine Ld (Tn (Fs (Fg (lv S (Ra rfl) rfl ?_))));clear S;intro a S
   replace S := S.nil 38 5
   refine Ld (Tn (Fs (Fs (Fg (l_buildSlice S Tryz.underlying59 Tryz.sizeOf9 Tryz.zeroValue9 rfl rfl (pv := [(0, sV k_ann), (1, sV k_bea), (2, sV k_cid), (3, sV k_dan), (4, sV k_eve)]) ⟨rfl, rfl, rfl, rfl, rfl, rfl, rfl, rfl, rfl, rfl, trivial⟩ (cs := [sV k_ann, sV k_bea, sV k_cid, sV k_dan, sV k_eve]) (by kernel_rfl) rfl ?_)))));clear S;intro a w5 b3 hz2 hk3 S
   refine lv S (rn_lenT sl_59 (S.tm rfl) ⟨_, _, rfl⟩) rfl ?_;clear S;intro a S
   refine lv S (Rm rfl) rfl ?_;clear S;intro a S
   refine Ld ?_
   replace S := S.nk [.blk b3 [sV k_ann, sV k_bea, sV k_cid, sV k_dan, sV k_eve] 9, .own (.slice none 0 0) 38 5 ([] : List GScored).length (([] : List GScored).flatMap GScored.enc), .own v1 38 5 x1.length (x1.flatMap GScored.enc), .blk O [U, iV r1.2] 25] [(0, .pointer (some ⟨O, 0, none⟩)), (3, v1), (5, sV y1), (6, bV r1.1), (7, (.slice none 0 0)), (16, (.slice (some ⟨b1, 0, none⟩) 3 3)), (17, iV (([k_ra, k_rb, k_rc] : List ByteArray).length : Int)), (18, iV (i1 : Int)), (24, .slice (some ⟨b3, 0, none⟩) 5 5), (25, iV (([k_ann, k_bea, k_cid, k_dan, k_eve] : List ByteArray).length : Int)), (26, iV 0)] [true, true, true, true] rfl (subR rfl)
   refine Tn ?_
   replace S := S.litOwn (i := 0) (xs := [k_ann, k_bea, k_cid, k_dan, k_eve]) rfl enc_str rfl rfl rfl
   replace S := S.nk [.own (.slice (some ⟨b3, 0, none⟩) 5 5) 9 1 ([k_ann, k_bea, k_cid, k_dan, k_eve] : List ByteArray).length (([k_ann, k_bea, k_cid, k_dan, k_eve] : List ByteArray).flatMap eStr), .own (.slice none 0 0) 38 5 ([] : List GScored).length (([] : List GScored).flatMap GScored.enc), .own v1 38 5 x1.length (x1.flatMap GScored.enc), .blk O [U, iV r1.2] 25] [(0, .pointer (some ⟨O, 0, none⟩)), (3, v1), (5, sV y1), (6, bV r1.1), (7, (.slice none 0 0)), (16, (.slice (some ⟨b1, 0, none⟩) 3 3)), (17, iV (([k_ra, k_rb, k_rc] : List ByteArray).length : Int)), (18, iV (i1 : Int)), (24, (.slice (some ⟨b3, 0, none⟩) 5 5)), (25, iV (([k_ann, k_bea, k_cid, k_dan, k_eve] : List ByteArray).length : Int)), (26, iV 0)] [] rfl (subR rfl)
   obtain ⟨φ3, hl3, hs2, S⟩ := S.freezeT (xs := ([k_ann, k_bea, k_cid, k_dan, k_eve] : List ByteArray)) (enc := eStr) (i := 0) rfl (fun c hc hh => not_fps S (i := 3) rfl rfl (j := 0) rfl rfl (by simp at hc;subst hc;exact hh))
   replace S := S.nk [.own (.slice none 0 0) 38 5 ([] : List GScored).length (([] : List GScored).flatMap GScored.enc), .own v1 38 5 x1.length (x1.flatMap GScored.enc), .blk O [U, iV r1.2] 25] [(0, .pointer (some ⟨O, 0, none⟩)), (3, v1), (5, sV y1), (6, bV r1.1), (7, (.slice none 0 0)), (16, (.slice (some ⟨b1, 0, none⟩) 3 3)), (17, iV (([k_ra, k_rb, k_rc] : List ByteArray).length : Int)), (18, iV (i1 : Int)), (24, (.slice (some ⟨b3, 0, none⟩) 5 5)), (25, iV (([k_ann, k_bea, k_cid, k_dan, k_eve] : List ByteArray).length : Int)), (26, iV 0)] [] rfl (subR rfl)
   obtain ⟨j2, hj2, h⟩ := joinE h
   refine f_join (fun a w' => ∃ x3 : List GScored, ∃ x4 : Int, ∃ v3 : Value, j2 x3 x4 = some r ∧ Sx w [O] φ3 [.own v3 38 5 x3.length (x3.flatMap GScored.enc), .own v1 38 5 x1.length (x1.flatMap GScored.enc), .blk O [U, iV x4] 25] [(0, .pointer (some ⟨O, 0, none⟩)), (3, v1), (7, v3), (16, (.slice (some ⟨b1, 0, none⟩) 3 3)), (17, iV (([k_ra, k_rb, k_rc] : List ByteArray).length : Int)), (18, iV (i1 : Int))] 114 a w') ?_ ?_
   ·refine wp_block (f_loop (fun (ys2 : List ByteArray) a w' => ∃ i2 : Nat, ∃ x3 : List GScored, ∃ x4 : Int, ∃ v3 : Value, (∃ dn, ([k_ann, k_bea, k_cid, k_dan, k_eve] : List ByteArray) = dn ++ ys2 ∧ dn.length = i2) ∧ Stream_RightScored_l2 Ae y1 r1 j2 ys2 i2 x3 x4 = some r ∧ Sx w [O] φ3 [.own v3 38 5 x3.length (x3.flatMap GScored.enc), .own v1 38 5 x1.length (x1.flatMap GScored.enc), .blk O [U, iV x4] 25] [(0, .pointer (some ⟨O, 0, none⟩)), (3, v1), (5, sV y1), (6, bV r1.1), (7, v3), (16, (.slice (some ⟨b1, 0, none⟩) 3 3)), (17, iV (([k_ra, k_rb, k_rc] : List ByteArray).length : Int)), (18, iV (i1 : Int)), (24, (.slice (some ⟨b3, 0, none⟩) 5 5)), (25, iV (([k_ann, k_bea, k_cid, k_dan, k_eve] : List ByteArray).length : Int)), (26, iV (i2 : Int))] 114 a w') List.length ([k_ann, k_bea, k_cid, k_dan, k_eve] : List ByteArray) ⟨0, ([] : List GScored), r1.2, (.slice none 0 0), ⟨[], rfl, rfl⟩, h, S.nf [true, true, true] rfl (subR rfl)⟩ ?_)
    clear S h;rintro ys2 a w6 ⟨i2, x3, x4, v3, ⟨dn, hd2, hi2⟩, h, S⟩
    cases ys2 with
    | nil =>
     rw [Stream_RightScored_l2.eq_1] at h
     refine Fs (Fg (lv S (rn_lss (S.tm rfl) (S.tm rfl)) rfl ?_));clear S;intro a S
     refine Ld ?_
     replace S := S.nk [.own v3 38 5 x3.length (x3.flatMap GScored.enc), .own v1 38 5 x1.length (x1.flatMap GScored.enc), .blk O [U, iV x4] 25] [(0, .pointer (some ⟨O, 0, none⟩)), (3, v1), (5, sV y1), (6, bV r1.1), (7, v3), (16, (.slice (some ⟨b1, 0, none⟩) 3 3)), (17, iV (([k_ra, k_rb, k_rc] : List ByteArray).length : Int)), (18, iV (i1 : Int)), (24, (.slice (some ⟨b3, 0, none⟩) 5 5)), (25, iV (([k_ann, k_bea, k_cid, k_dan, k_eve] : List ByteArray).length : Int)), (26, iV (i2 : Int)), (27, bV (decide ((i2 : Int) < (([k_ann, k_bea, k_cid, k_dan, k_eve] : List ByteArray).length : Int))))] [true, true, true] rfl (subR rfl)
     refine Tn (Fs (wp_cond_false ((S.tm rfl).trans (congrArg Value.bool (rng_nil hd2 hi2))) (wp_exit (then_x (then_x (x_same ?_))))))
     refine Tn ?_
     exact ⟨x3, x4, v3, h, S.nf [true, true, true] rfl (subR rfl)⟩
    | cons y2 ys2 =>
     rw [Stream_RightScored_l2.eq_2] at h
     refine Fs (Fg (lv S (rn_lss (S.tm rfl) (S.tm rfl)) rfl ?_));clear S;intro a S
     refine Ld ?_
     replace S := S.nk [.own v3 38 5 x3.length (x3.flatMap GScored.enc), .own v1 38 5 x1.length (x1.flatMap GScored.enc), .blk O [U, iV x4] 25] [(0, .pointer (some ⟨O, 0, none⟩)), (3, v1), (5, sV y1), (6, bV r1.1), (7, v3), (16, (.slice (some ⟨b1, 0, none⟩) 3 3)), (17, iV (([k_ra, k_rb, k_rc] : List ByteArray).length : Int)), (18, iV (i1 : Int)), (24, (.slice (some ⟨b3, 0, none⟩) 5 5)), (25, iV (([k_ann, k_bea, k_cid, k_dan, k_eve] : List ByteArray).length : Int)), (26, iV (i2 : Int)), (27, bV (decide ((i2 : Int) < (([k_ann, k_bea, k_cid, k_dan, k_eve] : List ByteArray).length : Int))))] [true, true, true] rfl (subR rfl)
     refine Tn (Fs (wp_cond_true ((S.tm rfl).trans (congrArg Value.bool (rng_cons hd2 hi2))) (wp_skip (Tn (Fs ?_)))))
     obtain ⟨j3, hj3, h⟩ := joinE h
     refine f_join (fun a w' => ∃ x5 : List GScored, ∃ x6 : Int, ∃ v4 : Value, j3 x5 x6 = some r ∧ Sx w [O] φ3 [.own v4 38 5 x5.length (x5.flatMap GScored.enc), .own v1 38 5 x1.length (x1.flatMap GScored.enc), .blk O [U, iV x6] 25] [(0, .pointer (some ⟨O, 0, none⟩)), (3, v1), (5, sV y1), (6, bV r1.1), (7, v4), (16, (.slice (some ⟨b1, 0, none⟩) 3 3)), (17, iV (([k_ra, k_rb, k_rc] : List ByteArray).length : Int)), (18, iV (i1 : Int)), (24, (.slice (some ⟨b3, 0, none⟩) 5 5)), (25, iV (([k_ann, k_bea, k_cid, k_dan, k_eve] : List ByteArray).length : Int)), (26, iV (i2 : Int))] 114 a w') ?_ ?_
     ·refine wp_block (Fs (Fg ?_))
      obtain ⟨b4, o2, hm2, hr3⟩ := rn_indexT (a := a) (x := .tmp 24) (y := .tmp 26) (ty := 0) sl_59 (ownV_slcT enc_str hs2) (get_mid hd2 hi2) rfl (S.tm rfl) (S.tm rfl)
      refine lv S (hr3 _) rfl ?_;clear S;intro a S
      clear hr3
      refine lv S (rn_ld Tryz.isAgg9 (off := o2) (o := 0) (S.tm rfl) (hm2.at S.emb) rfl) rfl ?_;clear S;intro a S
      refine lv S (Ra (S.tm rfl)) rfl ?_;clear S;intro a S
      refine Ld ?_
      replace S := S.nk [.own v3 38 5 x3.length (x3.flatMap GScored.enc), .own v1 38 5 x1.length (x1.flatMap GScored.enc), .blk O [U, iV x4] 25] [(0, .pointer (some ⟨O, 0, none⟩)), (3, v1), (5, sV y1), (6, bV r1.1), (7, v3), (9, sV y2), (16, (.slice (some ⟨b1, 0, none⟩) 3 3)), (17, iV (([k_ra, k_rb, k_rc] : List ByteArray).length : Int)), (18, iV (i1 : Int)), (24, (.slice (some ⟨b3, 0, none⟩) 5 5)), (25, iV (([k_ann, k_bea, k_cid, k_dan, k_eve] : List ByteArray).length : Int)), (26, iV (i2 : Int))] [true, true, true] rfl (subR rfl)
      refine Tn (Fs (Fg (lv S (Rm (S.tm rfl)) rfl ?_)));clear S;intro a S
      obtain ⟨r2, hr4, h⟩ := bindE h
      refine l_enter1 2 S (b := O) rfl rfl (fun _ => .blk O [U, iV r2.2] 25) (fun _ => run_call (vs := [.pointer (some ⟨O, 0, none⟩), iV 4]) ⟨(S.tm rfl), rfl, trivial⟩ Tryz.call14) (Stream_Flip_ok _ O U Ae (Ag.mono (S.le_arg (fp_sub (i := 2) (e := .blk O [U, iV x4] 25) rfl))) x4 (S.holds _ (List.mem_of_getElem? (i := 2) rfl)) 4 _ hr4) rfl (fun _ _ _ h => ⟨h.1, fun _ hc => by cases hc;rfl⟩) ?_;clear S;intro v5 a w9 hv2 hk4 hn2 S
      replace hv2 := hv2.2
      subst hv2
      refine lv S (rn_not (S.tm rfl)) rfl ?_;clear S;intro a S
      refine Ld ?_
      replace S := S.nk [.own v3 38 5 x3.length (x3.flatMap GScored.enc), .own v1 38 5 x1.length (x1.flatMap GScored.enc), .blk O [U, iV r2.2] 25] [(0, .pointer (some ⟨O, 0, none⟩)), (3, v1), (5, sV y1), (6, bV r1.1), (7, v3), (9, sV y2), (16, (.slice (some ⟨b1, 0, none⟩) 3 3)), (17, iV (([k_ra, k_rb, k_rc] : List ByteArray).length : Int)), (18, iV (i1 : Int)), (24, (.slice (some ⟨b3, 0, none⟩) 5 5)), (25, iV (([k_ann, k_bea, k_cid, k_dan, k_eve] : List ByteArray).length : Int)), (26, iV (i2 : Int)), (32, bV (!r2.1))] [true, true, true] rfl (subR rfl)
      refine Tn ?_
      obtain ⟨j4, hj4, h⟩ := joinE h
      refine f_join (fun a w' => ∃ x7 : List GScored, ∃ x8 : Int, ∃ v6 : Value, j4 x7 x8 = some r ∧ Sx w [O] φ3 [.own v6 38 5 x7.length (x7.flatMap GScored.enc), .own v1 38 5 x1.length (x1.flatMap GScored.enc), .blk O [U, iV x8] 25] [(0, .pointer (some ⟨O, 0, none⟩)), (3, v1), (5, sV y1), (6, bV r1.1), (7, v6), (16, (.slice (some ⟨b1, 0, none⟩) 3 3)), (17, iV (([k_ra, k_rb, k_rc] : List ByteArray).length : Int)), (18, iV (i1 : Int)), (24, (.slice (some ⟨b3, 0, none⟩) 5 5)), (25, iV (([k_ann, k_bea, k_cid, k_dan, k_eve] : List ByteArray).length : Int)), (26, iV (i2 : Int))] 114 a w') ?_ ?_
      ·refine f_cond (S.tm rfl) (fun hb1 => ?_) (fun hb1 => ?_)
       ·replace h := iteT h hb1
        refine Fg (lv S (Rm (S.tm rfl)) rfl ?_);clear S;intro a S
        iterate 3 (refine lv S (Rm (S.tm rfl)) rfl ?_;clear S;intro a S)
        refine l_buildSlice S Tryz.underlying59 Tryz.sizeOf9 Tryz.zeroValue9 rfl rfl (pv := [(0, sV k_blue), (1, sV k_blue), (2, sV k_red), (3, sV k_grey), (4, sV k_empty)]) ⟨rfl, rfl, rfl, rfl, rfl, rfl, rfl, rfl, rfl, rfl, trivial⟩ (cs := [sV k_blue, sV k_blue, sV k_red, sV k_grey, sV k_empty]) (by kernel_rfl) rfl ?_;clear S;intro a w11 b5 hz3 hk5 S
        obtain ⟨r3, hr5, h⟩ := bindE h
        refine l_enter1 3 S (b := O) rfl rfl (fun _ => .blk O [U, iV r3.2] 25) (fun _ => run_call (vs := [.pointer (some ⟨O, 0, none⟩), .slice (some ⟨b5, 0, none⟩) 5 5]) ⟨(S.tm rfl), (S.tm rfl), trivial⟩ Tryz.call16) (Stream_Some_ok _ O U Ae (Ag.mono (S.le_arg (fp_sub (i := 3) (e := .blk O [U, iV r2.2] 25) rfl))) r2.2 (S.holds _ (List.mem_of_getElem? (i := 3) rfl)) (.slice (some ⟨b5, 0, none⟩) 5 5) [k_blue, k_blue, k_red, k_grey, k_empty] (lit_slcT enc_str S (i := 0) rfl rfl rfl rfl ((ne_fp (i := 3) (j := 0) (e := .blk O [U, iV r2.2] 25) (e' := .blk b5 [sV k_blue, sV k_blue, sV k_red, sV k_grey, sV k_empty] 9) S rfl rfl rfl) _ rfl)) _ hr5) rfl (fun _ _ _ h => ⟨h.1, fun _ hc => by cases hc;rfl⟩) ?_;clear S;intro v7 a w12 hv3 hk6 hn3 S
        replace hv3 := hv3.2
        subst hv3
        refine lv S (Rm (S.tm rfl)) rfl ?_;clear S;intro a S
        refine l_buildSlice S Tryz.underlying22 Tryz.sizeOf3 Tryz.zeroValue3 rfl rfl (pv := [(0, iV 0), (1, iV 1), (2, iV 2), (3, iV 2), (4, iV 3), (5, iV 4)]) ⟨rfl, rfl, rfl, rfl, rfl, rfl, rfl, rfl, rfl, rfl, rfl, rfl, trivial⟩ (cs := [iV 0, iV 1, iV 2, iV 2, iV 3, iV 4]) (by kernel_rfl) rfl ?_;clear S;intro a w13 b6 hz4 hk7 S
        obtain ⟨r4, hr6, h⟩ := bindE h
        refine l_enter1 4 S (b := O) rfl rfl (fun _ => .blk O [U, iV r4.2] 25) (fun _ => run_call (vs := [.pointer (some ⟨O, 0, none⟩), .slice (some ⟨b6, 0, none⟩) 6 6]) ⟨(S.tm rfl), (S.tm rfl), trivial⟩ Tryz.call19) (Stream_Pick_ok _ O U Ae (Ag.mono (S.le_arg (fp_sub (i := 4) (e := .blk O [U, iV r3.2] 25) rfl))) r3.2 (S.holds _ (List.mem_of_getElem? (i := 4) rfl)) (.slice (some ⟨b6, 0, none⟩) 6 6) [0, 1, 2, 2, 3, 4] (lit_slcT enc_int S (i := 0) rfl rfl rfl rfl ((ne_fp (i := 4) (j := 0) (e := .blk O [U, iV r3.2] 25) (e' := .blk b6 [iV 0, iV 1, iV 2, iV 2, iV 3, iV 4] 3) S rfl rfl rfl) _ rfl)) _ hr6) rfl (fun _ _ _ h => ⟨h.1, fun _ hc => by cases hc;rfl⟩) ?_;clear S;intro v8 a w14 hv4 hk8 hn4 S
        replace hv4 := hv4.2
        subst hv4
        refine lv S (Rm (S.tm rfl)) rfl ?_;clear S;intro a S
        refine lv S (rn_bld bt_38 (pv := [(0, sV y1), (1, sV y2), (2, sV r3.1), (3, iV r4.1), (4, bV r1.1)]) ⟨rfl, (S.tm rfl), rfl, (S.tm rfl), rfl, (S.tm rfl), rfl, (S.tm rfl), rfl, (S.tm rfl), trivial⟩ (cs := [sV y1, sV y2, sV r3.1, iV r4.1, bV r1.1]) (by kernel_rfl)) rfl ?_;clear S;intro a S
        refine l_buildSlice S Tryz.underlying26 Tryz.sizeOf38 Tryz.zeroValue38 rfl rfl (pv := [(0, .agg #[sV y1, sV y2, sV r3.1, iV r4.1, bV r1.1])]) ⟨rfl, (S.tm rfl), trivial⟩ (cs := [sV y1, sV y2, sV r3.1, iV r4.1, bV r1.1]) (by kernel_rfl) rfl ?_;clear S;intro a w15 b7 hz5 hk9 S
        obtain ⟨hc1, h⟩ := chkE h
        refine l_appendT sl_26 GScored.enc_ok S (S.tm rfl) (i := 3) rfl (S.tm rfl) (j := 0) rfl (ys := [(GScored.mk y1 y2 r3.1 r4.1 r1.1)]) rfl rfl rfl rfl (by have := room_lt hc1;omega) rfl ?_;clear S;intro v9 a w16 hk10 S
        refine lv S (Ra (S.tm rfl)) rfl ?_;clear S;intro a S
        refine Ld ?_
        replace S := S.nk [.own v9 38 5 (x3 ++ [(GScored.mk y1 y2 r3.1 r4.1 r1.1)]).length ((x3 ++ [(GScored.mk y1 y2 r3.1 r4.1 r1.1)]).flatMap GScored.enc), .own v1 38 5 x1.length (x1.flatMap GScored.enc), .blk O [U, iV r4.2] 25] [(0, .pointer (some ⟨O, 0, none⟩)), (3, v1), (5, sV y1), (6, bV r1.1), (7, v9), (16, (.slice (some ⟨b1, 0, none⟩) 3 3)), (17, iV (([k_ra, k_rb, k_rc] : List ByteArray).length : Int)), (18, iV (i1 : Int)), (24, (.slice (some ⟨b3, 0, none⟩) 5 5)), (25, iV (([k_ann, k_bea, k_cid, k_dan, k_eve] : List ByteArray).length : Int)), (26, iV (i2 : Int))] [false, false, false, true, true, true] rfl (subR rfl)
        refine Tn ?_
        exact ⟨(x3 ++ [(GScored.mk y1 y2 r3.1 r4.1 r1.1)]), r4.2, v9, h, S.nf [true, true, true] rfl (subR rfl)⟩
       ·replace h := iteF h hb1
        refine wp_skip (Tn ?_)
        exact ⟨x3, r2.2, v3, h, S.nf [true, true, true] rfl (subR rfl)⟩
      clear S h;rintro a w10 ⟨x7, x8, v6, h, S⟩;rw [hj4] at h;clear hj4 j4
      refine blk_n (Tn ?_)
      exact ⟨x7, x8, v6, h, S.nf [true, true, true] rfl (subR rfl)⟩
     clear S h;rintro a w8 ⟨x5, x6, v4, h, S⟩;rw [hj3] at h;clear hj3 j3
     refine Tn (Fg (lv S (rn_add (S.tm rfl) rfl) rfl ?_));clear S;intro a S
     refine lv S (Rm (S.tm rfl)) rfl ?_;clear S;intro a S
     refine Ld (Tn ?_)
     exact ⟨ys2, ⟨i2 + 1, x5, x6, v4, ⟨_, (hd2).trans (List.append_cons _ _ _), by simp [hi2]⟩, h, S.nf [true, true, true] rfl ⟨rfl, rfl, rfl, rfl, rfl, rfl, rfl, rfl, rfl, rfl, (congrArg (fun z => some (Value.int .i64 z)) (rng_next hd2 hi2 (slc_max (ownV_slcT enc_str hs2)))), trivial⟩⟩, Nat.lt_succ_self _⟩
   clear S h;rintro a w7 ⟨x3, x4, v3, h, S⟩;rw [hj2] at h;clear hj2 j2
   refine Tn (Fs (Fs (Fg (lv S (Rm (S.tm rfl)) rfl ?_))));clear S;intro a S
   refine lv S (rn_lenT sl_26 (S.tm rfl) (own_len (S.own_at (i := 0) rfl))) rfl ?_;clear S;intro a S
   refine lv S (Rm rfl) rfl ?_;clear S;intro a S
   refine Ld (Tn ?_)
   replace S := S.nk [.own v3 38 5 x3.length (x3.flatMap GScored.enc), .own v1 38 5 x1.length (x1.flatMap GScored.enc), .blk O [U, iV x4] 25] [(0, .pointer (some ⟨O, 0, none⟩)), (3, v1), (7, v3), (16, (.slice (some ⟨b1, 0, none⟩) 3 3)), (17, iV (([k_ra, k_rb, k_rc] : List ByteArray).length : Int)), (18, iV (i1 : Int)), (47, v3), (48, iV (x3.length : Int)), (49, iV 0)] [true, true, true] rfl (subR rfl)
   have hm3 := own_max (S.own_at (i := 0) rfl)
   obtain ⟨j5, hj5, h⟩ := joinE h
   refine f_join (fun a w' => ∃ x9 : List GScored, ∃ v10 : Value, j5 x9 = some r ∧ Sx w [O] φ3 [.own v10 38 5 x9.length (x9.flatMap GScored.enc), .own v1 38 5 x1.length (x1.flatMap GScored.enc), .blk O [U, iV x4] 25] [(0, .pointer (some ⟨O, 0, none⟩)), (3, v1), (7, v10), (16, (.slice (some ⟨b1, 0, none⟩) 3 3)), (17, iV (([k_ra, k_rb, k_rc] : List ByteArray).length : Int)), (18, iV (i1 : Int))] 114 a w') ?_ ?_
   ·refine wp_block (f_loop (fun (ys3 : List GScored) a w' => ∃ i3 : Nat, ∃ x9 : List GScored, ∃ v10 : Value, (∃ dn, x3 = dn ++ ys3 ∧ dn.length = i3) ∧ Stream_RightScored_l3 j5 ys3 i3 x9 = some r ∧ Sx w [O] φ3 [.own v10 38 5 x9.length (x9.flatMap GScored.enc), .own v1 38 5 x1.length (x1.flatMap GScored.enc), .blk O [U, iV x4] 25] [(0, .pointer (some ⟨O, 0, none⟩)), (3, v1), (7, v10), (16, (.slice (some ⟨b1, 0, none⟩) 3 3)), (17, iV (([k_ra, k_rb, k_rc] : List ByteArray).length : Int)), (18, iV (i1 : Int)), (47, v10), (48, iV (x3.length : Int)), (49, iV (i3 : Int))] 114 a w') List.length x3 ⟨0, x3, v3, ⟨[], rfl, rfl⟩, h, S.nf [true, true, true] rfl (subR rfl)⟩ ?_)
    clear S h;rintro ys3 a w17 ⟨i3, x9, v10, ⟨dn, hd3, hi3⟩, h, S⟩
    cases ys3 with
    | nil =>
     rw [Stream_RightScored_l3.eq_1] at h
     refine Fs (Fg (lv S (rn_lss (S.tm rfl) (S.tm rfl)) rfl ?_));clear S;intro a S
     refine Ld ?_
     replace S := S.nk [.own v10 38 5 x9.length (x9.flatMap GScored.enc), .own v1 38 5 x1.length (x1.flatMap GScored.enc), .blk O [U, iV x4] 25] [(0, .pointer (some ⟨O, 0, none⟩)), (3, v1), (7, v10), (16, (.slice (some ⟨b1, 0, none⟩) 3 3)), (17, iV (([k_ra, k_rb, k_rc] : List ByteArray).length : Int)), (18, iV (i1 : Int)), (47, v10), (48, iV (x3.length : Int)), (49, iV (i3 : Int)), (50, bV (decide ((i3 : Int) < (x3.length : Int))))] [true, true, true] rfl (subR rfl)
     refine Tn (Fs (wp_cond_false ((S.tm rfl).trans (congrArg Value.bool (rng_nil hd3 hi3))) (wp_exit (then_x (then_x (x_same ?_))))))
     refine Tn ?_
     exact ⟨x9, v10, h, S.nf [true, true, true] rfl (subR rfl)⟩
    | cons y3 ys3 =>
     rw [Stream_RightScored_l3.eq_2] at h
     refine Fs (Fg (lv S (rn_lss (S.tm rfl) (S.tm rfl)) rfl ?_));clear S;intro a S
     refine Ld ?_
     replace S := S.nk [.own v10 38 5 x9.length (x9.flatMap GScored.enc), .own v1 38 5 x1.length (x1.flatMap GScored.enc), .blk O [U, iV x4] 25] [(0, .pointer (some ⟨O, 0, none⟩)), (3, v1), (7, v10), (16, (.slice (some ⟨b1, 0, none⟩) 3 3)), (17, iV (([k_ra, k_rb, k_rc] : List ByteArray).length : Int)), (18, iV (i1 : Int)), (47, v10), (48, iV (x3.length : Int)), (49, iV (i3 : Int)), (50, bV (decide ((i3 : Int) < (x3.length : Int))))] [true, true, true] rfl (subR rfl)
     refine Tn (Fs (wp_cond_true ((S.tm rfl).trans (congrArg Value.bool (rng_cons hd3 hi3))) (wp_skip (Tn (Fs ?_)))))
     obtain ⟨j6, hj6, h⟩ := joinE h
     refine f_join (fun a w' => ∃ x10 : List GScored, j6 x10 = some r ∧ Sx w [O] φ3 [.own v10 38 5 x10.length (x10.flatMap GScored.enc), .own v1 38 5 x1.length (x1.flatMap GScored.enc), .blk O [U, iV x4] 25] [(0, .pointer (some ⟨O, 0, none⟩)), (3, v1), (7, v10), (16, (.slice (some ⟨b1, 0, none⟩) 3 3)), (17, iV (([k_ra, k_rb, k_rc] : List ByteArray).length : Int)), (18, iV (i1 : Int)), (47, v10), (48, iV (x3.length : Int)), (49, iV (i3 : Int))] 114 a w') ?_ ?_
     ·refine wp_block (Fs (Fg (lv S (Rm (S.tm rfl)) rfl ?_)));clear S;intro a S
      obtain ⟨hc2, h⟩ := chkE h
      obtain ⟨b8, hg1, hr7⟩ := rn_indexS (a := a) (x := .tmp 47) (y := .tmp 49) (ty := 0) sl_26 GScored.enc_ok S (i := 0) rfl (inB_get hc2).1 (inB_get hc2).2 (S.tm rfl) (S.tm rfl)
      refine lv S (hr7 _) rfl ?_;clear S;intro a S
      clear hr7
      refine lv S (rn_ldA Tryz.isAgg38 Tryz.sizeOf38 (off := ((i3 : Int).toNat) * 5) (o := 0) (part := (GScored.enc (nth x9 (i3 : Int)))) rfl rfl (S.tm rfl) (own_cells GScored.enc_ok S (i := 0) rfl hg1 (inB_get hc2).1)) rfl ?_;clear S;intro a S
      refine l_alloc S Tryz.zeroValue38 (cs := [sV k_empty, sV k_empty, sV k_empty, iV 0, bV false]) rfl rfl ?_;clear S;intro a w20 b9 hz6 hk11 S
      refine lv S (Ra (S.tm rfl)) rfl ?_;clear S;intro a S
      refine l_store S (S.tm rfl) (S.tm rfl) (i := 0) (off := 0) rfl Tryz.sizeOf38 (vs := (GScored.enc (nth x9 (i3 : Int)))) rfl rfl rfl rfl ?_;clear S;intro w21 hk12 S
      refine Ld ?_
      replace S := S.nk [.blk b9 (GScored.enc (nth x9 (i3 : Int))) 38, .own v10 38 5 x9.length (x9.flatMap GScored.enc), .own v1 38 5 x1.length (x1.flatMap GScored.enc), .blk O [U, iV x4] 25] [(0, .pointer (some ⟨O, 0, none⟩)), (3, v1), (7, v10), (10, iV (i3 : Int)), (11, .pointer (some ⟨b9, 0, none⟩)), (16, (.slice (some ⟨b1, 0, none⟩) 3 3)), (17, iV (([k_ra, k_rb, k_rc] : List ByteArray).length : Int)), (18, iV (i1 : Int)), (47, v10), (48, iV (x3.length : Int)), (49, iV (i3 : Int))] [true, true, true, true] rfl (subR rfl)
      refine Tn (Fs (Fg (lv S (Ra rfl) rfl ?_)));clear S;intro a S
      refine Ld (Tn (Fs (Fs (Fg (lv S (Rm (S.tm rfl)) rfl ?_)))));clear S;intro a S
      refine lv S (rn_lenT sl_26 (S.tm rfl) (own_len (S.own_at (i := 1) rfl))) rfl ?_;clear S;intro a S
      refine lv S (Rm rfl) rfl ?_;clear S;intro a S
      refine Ld ?_
      replace S := S.nk [.blk b9 (GScored.enc (nth x9 (i3 : Int))) 38, .own v10 38 5 x9.length (x9.flatMap GScored.enc), .own v1 38 5 x1.length (x1.flatMap GScored.enc), .blk O [U, iV x4] 25] [(0, .pointer (some ⟨O, 0, none⟩)), (3, v1), (7, v10), (10, iV (i3 : Int)), (11, .pointer (some ⟨b9, 0, none⟩)), (12, iV 1), (16, (.slice (some ⟨b1, 0, none⟩) 3 3)), (17, iV (([k_ra, k_rb, k_rc] : List ByteArray).length : Int)), (18, iV (i1 : Int)), (47, v10), (48, iV (x3.length : Int)), (49, iV (i3 : Int)), (54, v10), (55, iV (x9.length : Int)), (56, iV 0)] [true, true, true, true] rfl (subR rfl)
      refine Tn ?_
      have hm5 := own_max (S.own_at (i := 1) rfl)
      obtain ⟨j7, hj7, h⟩ := joinE h
      refine f_join (fun a w' => ∃ x11 : Int, j7 x11 = some r ∧ Sx w [O] φ3 [.blk b9 (GScored.enc (nth x9 (i3 : Int))) 38, .own v10 38 5 x9.length (x9.flatMap GScored.enc), .own v1 38 5 x1.length (x1.flatMap GScored.enc), .blk O [U, iV x4] 25] [(0, .pointer (some ⟨O, 0, none⟩)), (3, v1), (7, v10), (10, iV (i3 : Int)), (11, .pointer (some ⟨b9, 0, none⟩)), (12, iV x11), (16, (.slice (some ⟨b1, 0, none⟩) 3 3)), (17, iV (([k_ra, k_rb, k_rc] : List ByteArray).length : Int)), (18, iV (i1 : Int)), (47, v10), (48, iV (x3.length : Int)), (49, iV (i3 : Int))] 114 a w') ?_ ?_
      ·refine wp_block (f_loop (fun (ys4 : List GScored) a w' => ∃ i4 : Nat, ∃ x11 : Int, (∃ dn, x9 = dn ++ ys4 ∧ dn.length = i4) ∧ Stream_RightScored_l4 x9 i3 j7 ys4 i4 x11 = some r ∧ Sx w [O] φ3 [.blk b9 (GScored.enc (nth x9 (i3 : Int))) 38, .own v10 38 5 x9.length (x9.flatMap GScored.enc), .own v1 38 5 x1.length (x1.flatMap GScored.enc), .blk O [U, iV x4] 25] [(0, .pointer (some ⟨O, 0, none⟩)), (3, v1), (7, v10), (10, iV (i3 : Int)), (11, .pointer (some ⟨b9, 0, none⟩)), (12, iV x11), (16, (.slice (some ⟨b1, 0, none⟩) 3 3)), (17, iV (([k_ra, k_rb, k_rc] : List ByteArray).length : Int)), (18, iV (i1 : Int)), (47, v10), (48, iV (x3.length : Int)), (49, iV (i3 : Int)), (54, v10), (55, iV (x9.length : Int)), (56, iV (i4 : Int))] 114 a w') List.length x9 ⟨0, 1, ⟨[], rfl, rfl⟩, h, S.nf [true, true, true, true] rfl (subR rfl)⟩ ?_)
       clear S h;rintro ys4 a w22 ⟨i4, x11, ⟨dn, hd4, hi4⟩, h, S⟩
       cases ys4 with
       | nil =>
        rw [Stream_RightScored_l4.eq_1] at h
        refine Fs (Fg (lv S (rn_lss (S.tm rfl) (S.tm rfl)) rfl ?_));clear S;intro a S
        refine Ld ?_
        replace S := S.nk [.blk b9 (GScored.enc (nth x9 (i3 : Int))) 38, .own v10 38 5 x9.length (x9.flatMap GScored.enc), .own v1 38 5 x1.length (x1.flatMap GScored.enc), .blk O [U, iV x4] 25] [(0, .pointer (some ⟨O, 0, none⟩)), (3, v1), (7, v10), (10, iV (i3 : Int)), (11, .pointer (some ⟨b9, 0, none⟩)), (12, iV x11), (16, (.slice (some ⟨b1, 0, none⟩) 3 3)), (17, iV (([k_ra, k_rb, k_rc] : List ByteArray).length : Int)), (18, iV (i1 : Int)), (47, v10), (48, iV (x3.length : Int)), (49, iV (i3 : Int)), (54, v10), (55, iV (x9.length : Int)), (56, iV (i4 : Int)), (57, bV (decide ((i4 : Int) < (x9.length : Int))))] [true, true, true, true] rfl (subR rfl)
        refine Tn (Fs (wp_cond_false ((S.tm rfl).trans (congrArg Value.bool (rng_nil hd4 hi4))) (wp_exit (then_x (then_x (x_same ?_))))))
        refine Tn ?_
        exact ⟨x11, h, S.nf [true, true, true, true] rfl (subR rfl)⟩
       | cons y4 ys4 =>
        rw [Stream_RightScored_l4.eq_2] at h
        refine Fs (Fg (lv S (rn_lss (S.tm rfl) (S.tm rfl)) rfl ?_));clear S;intro a S
        refine Ld ?_
        replace S := S.nk [.blk b9 (GScored.enc (nth x9 (i3 : Int))) 38, .own v10 38 5 x9.length (x9.flatMap GScored.enc), .own v1 38 5 x1.length (x1.flatMap GScored.enc), .blk O [U, iV x4] 25] [(0, .pointer (some ⟨O, 0, none⟩)), (3, v1), (7, v10), (10, iV (i3 : Int)), (11, .pointer (some ⟨b9, 0, none⟩)), (12, iV x11), (16, (.slice (some ⟨b1, 0, none⟩) 3 3)), (17, iV (([k_ra, k_rb, k_rc] : List ByteArray).length : Int)), (18, iV (i1 : Int)), (47, v10), (48, iV (x3.length : Int)), (49, iV (i3 : Int)), (54, v10), (55, iV (x9.length : Int)), (56, iV (i4 : Int)), (57, bV (decide ((i4 : Int) < (x9.length : Int))))] [true, true, true, true] rfl (subR rfl)
        refine Tn (Fs (wp_cond_true ((S.tm rfl).trans (congrArg Value.bool (rng_cons hd4 hi4))) (wp_skip (Tn (Fs ?_)))))
        obtain ⟨j8, hj8, h⟩ := joinE h
        refine f_join (fun a w' => ∃ x12 : Int, j8 x12 = some r ∧ Sx w [O] φ3 [.blk b9 (GScored.enc (nth x9 (i3 : Int))) 38, .own v10 38 5 x9.length (x9.flatMap GScored.enc), .own v1 38 5 x1.length (x1.flatMap GScored.enc), .blk O [U, iV x4] 25] [(0, .pointer (some ⟨O, 0, none⟩)), (3, v1), (7, v10), (10, iV (i3 : Int)), (11, .pointer (some ⟨b9, 0, none⟩)), (12, iV x12), (16, (.slice (some ⟨b1, 0, none⟩) 3 3)), (17, iV (([k_ra, k_rb, k_rc] : List ByteArray).length : Int)), (18, iV (i1 : Int)), (47, v10), (48, iV (x3.length : Int)), (49, iV (i3 : Int)), (54, v10), (55, iV (x9.length : Int)), (56, iV (i4 : Int))] 114 a w') ?_ ?_
        ·refine wp_block (Fs (Fg ?_))
         obtain ⟨b10, hg2, hr8⟩ := rn_indexS (a := a) (x := .tmp 54) (y := .tmp 56) (ty := 0) sl_26 GScored.enc_ok S (i := 1) rfl (get_mid hd4 hi4) rfl (S.tm rfl) (S.tm rfl)
         refine lv S (hr8 _) rfl ?_;clear S;intro a S
         clear hr8
         refine lv S (rn_ldA Tryz.isAgg38 Tryz.sizeOf38 (off := i4 * 5) (o := 0) (part := (GScored.enc y4)) rfl rfl (S.tm rfl) (own_cells GScored.enc_ok S (i := 1) rfl hg2 (get_mid hd4 hi4))) rfl ?_;clear S;intro a S
         refine l_alloc S Tryz.zeroValue38 (cs := [sV k_empty, sV k_empty, sV k_empty, iV 0, bV false]) rfl rfl ?_;clear S;intro a w25 b11 hz7 hk13 S
         refine l_store S (S.tm rfl) (S.tm rfl) (i := 0) (off := 0) rfl Tryz.sizeOf38 (vs := (GScored.enc y4)) rfl rfl rfl rfl ?_;clear S;intro w26 hk14 S
         refine Ld ?_
         replace S := S.nk [.blk b11 (GScored.enc y4) 38, .blk b9 (GScored.enc (nth x9 (i3 : Int))) 38, .own v10 38 5 x9.length (x9.flatMap GScored.enc), .own v1 38 5 x1.length (x1.flatMap GScored.enc), .blk O [U, iV x4] 25] [(0, .pointer (some ⟨O, 0, none⟩)), (3, v1), (7, v10), (10, iV (i3 : Int)), (11, .pointer (some ⟨b9, 0, none⟩)), (12, iV x11), (14, .pointer (some ⟨b11, 0, none⟩)), (16, (.slice (some ⟨b1, 0, none⟩) 3 3)), (17, iV (([k_ra, k_rb, k_rc] : List ByteArray).length : Int)), (18, iV (i1 : Int)), (47, v10), (48, iV (x3.length : Int)), (49, iV (i3 : Int)), (54, v10), (55, iV (x9.length : Int)), (56, iV (i4 : Int))] [true, true, true, true, true] rfl (subR rfl)
         refine Tn (Fs (Fg (lv S (rn_fld fa_38_3 (S.tm rfl)) rfl ?_)));clear S;intro a S
         refine lv S (rn_load Tryz.isAgg3 (S.tm rfl) (S.cell (i := 0) rfl rfl)) rfl ?_;clear S;intro a S
         refine lv S (rn_gtr (S.tm rfl) rfl) rfl ?_;clear S;intro a S
         refine lv S (Rm (S.tm rfl)) rfl ?_;clear S;intro a S
         refine f_cutm 8 (fun a w' => Keep [] w26 w' ∧ Sx w [O] φ3 [.blk b11 (GScored.enc y4) 38, .blk b9 (GScored.enc (nth x9 (i3 : Int))) 38, .own v10 38 5 x9.length (x9.flatMap GScored.enc), .own v1 38 5 x1.length (x1.flatMap GScored.enc), .blk O [U, iV x4] 25] [(0, .pointer (some ⟨O, 0, none⟩)), (3, v1), (7, v10), (10, iV (i3 : Int)), (11, .pointer (some ⟨b9, 0, none⟩)), (12, iV x11), (16, (.slice (some ⟨b1, 0, none⟩) 3 3)), (17, iV (([k_ra, k_rb, k_rc] : List ByteArray).length : Int)), (18, iV (i1 : Int)), (47, v10), (48, iV (x3.length : Int)), (49, iV (i3 : Int)), (54, v10), (55, iV (x9.length : Int)), (56, iV (i4 : Int)), (71, bV ((decide (0 < y4.Rank)) && (decide ((Int.tmod y4.Rank 10) < (Int.tmod ((nth x9 (i3 : Int)).Rank) 10)))))] 114 a w') ?_ ?_
         ·rcases Bool.eq_false_or_eq_true (decide (0 < y4.Rank)) with hb2 | hb2
          ·refine l_want S rfl rfl rfl hb2 (lv S (rn_fld fa_38_3 (S.tm rfl)) rfl ?_);clear S;intro a S
           refine l_want S rfl rfl rfl hb2 (lv S (rn_load Tryz.isAgg3 (S.tm rfl) (S.cell (i := 0) rfl rfl)) rfl ?_);clear S;intro a S
           refine l_want S rfl rfl rfl hb2 (lv S (rn_rem (S.tm rfl) rfl (by decide)) rfl ?_);clear S;intro a S
           refine l_want S rfl rfl rfl hb2 (lv S (rn_fld fa_38_3 (S.tm rfl)) rfl ?_);clear S;intro a S
           refine l_want S rfl rfl rfl hb2 (lv S (rn_load Tryz.isAgg3 (S.tm rfl) (S.cell (i := 1) rfl rfl)) rfl ?_);clear S;intro a S
           refine l_want S rfl rfl rfl hb2 (lv S (rn_rem (S.tm rfl) rfl (by decide)) rfl ?_);clear S;intro a S
           refine l_want S rfl rfl rfl hb2 (lv S (rn_lss (S.tm rfl) (S.tm rfl)) rfl ?_);clear S;intro a S
           refine lv S (rn_and_t hb2 (S.tm rfl) (S.tm rfl)) rfl ?_;clear S;intro a S
           refine Ld (Tn ?_)
           exact ⟨Keep.refl _ _, S.nf [true, true, true, true, true] rfl (subR rfl)⟩
          ·iterate 7 (refine l_skip S rfl rfl rfl (neq_f hb2) rfl ?_ rfl;clear S;intro a S)
           refine lv S (rn_and_f (decide ((Int.tmod y4.Rank 10) < (Int.tmod ((nth x9 (i3 : Int)).Rank) 10))) hb2 (S.tm rfl) rfl) rfl ?_;clear S;intro a S
           refine Ld (Tn ?_)
           exact ⟨Keep.refl _ _, S.nf [true, true, true, true, true] rfl (subR rfl)⟩
         clear S;rintro a w27 ⟨hk15, S⟩
         refine lv S (Rm (S.tm rfl)) rfl ?_;clear S;intro a S
         refine f_cutm 4 (fun a w' => Keep [] w27 w' ∧ Sx w [O] φ3 [.blk b11 (GScored.enc y4) 38, .blk b9 (GScored.enc (nth x9 (i3 : Int))) 38, .own v10 38 5 x9.length (x9.flatMap GScored.enc), .own v1 38 5 x1.length (x1.flatMap GScored.enc), .blk O [U, iV x4] 25] [(0, .pointer (some ⟨O, 0, none⟩)), (3, v1), (7, v10), (10, iV (i3 : Int)), (11, .pointer (some ⟨b9, 0, none⟩)), (12, iV x11), (16, (.slice (some ⟨b1, 0, none⟩) 3 3)), (17, iV (([k_ra, k_rb, k_rc] : List ByteArray).length : Int)), (18, iV (i1 : Int)), (47, v10), (48, iV (x3.length : Int)), (49, iV (i3 : Int)), (54, v10), (55, iV (x9.length : Int)), (56, iV (i4 : Int)), (76, bV (((decide (0 < y4.Rank)) && (decide ((Int.tmod y4.Rank 10) < (Int.tmod ((nth x9 (i3 : Int)).Rank) 10)))) && (decide (0 < ((nth x9 (i3 : Int)).Rank)))))] 114 a w') ?_ ?_
         ·rcases Bool.eq_false_or_eq_true ((decide (0 < y4.Rank)) && (decide ((Int.tmod y4.Rank 10) < (Int.tmod ((nth x9 (i3 : Int)).Rank) 10)))) with hb3 | hb3
          ·refine l_want S rfl rfl rfl hb3 (lv S (rn_fld fa_38_3 (S.tm rfl)) rfl ?_);clear S;intro a S
           refine l_want S rfl rfl rfl hb3 (lv S (rn_load Tryz.isAgg3 (S.tm rfl) (S.cell (i := 1) rfl rfl)) rfl ?_);clear S;intro a S
           refine l_want S rfl rfl rfl hb3 (lv S (rn_gtr (S.tm rfl) rfl) rfl ?_);clear S;intro a S
           refine lv S (rn_and_t hb3 (S.tm rfl) (S.tm rfl)) rfl ?_;clear S;intro a S
           refine Ld (Tn ?_)
           exact ⟨Keep.refl _ _, S.nf [true, true, true, true, true] rfl (subR rfl)⟩
          ·iterate 3 (refine l_skip S rfl rfl rfl (neq_f hb3) rfl ?_ rfl;clear S;intro a S)
           refine lv S (rn_and_f (decide (0 < ((nth x9 (i3 : Int)).Rank))) hb3 (S.tm rfl) rfl) rfl ?_;clear S;intro a S
           refine Ld (Tn ?_)
           exact ⟨Keep.refl _ _, S.nf [true, true, true, true, true] rfl (subR rfl)⟩
         clear S;rintro a w28 ⟨hk16, S⟩
         refine Ld ?_
         replace S := S.nk [.blk b9 (GScored.enc (nth x9 (i3 : Int))) 38, .own v10 38 5 x9.length (x9.flatMap GScored.enc), .own v1 38 5 x1.length (x1.flatMap GScored.enc), .blk O [U, iV x4] 25] [(0, .pointer (some ⟨O, 0, none⟩)), (3, v1), (7, v10), (10, iV (i3 : Int)), (11, .pointer (some ⟨b9, 0, none⟩)), (12, iV x11), (16, (.slice (some ⟨b1, 0, none⟩) 3 3)), (17, iV (([k_ra, k_rb, k_rc] : List ByteArray).length : Int)), (18, iV (i1 : Int)), (47, v10), (48, iV (x3.length : Int)), (49, iV (i3 : Int)), (54, v10), (55, iV (x9.length : Int)), (56, iV (i4 : Int)), (76, bV (((decide (0 < y4.Rank)) && (decide ((Int.tmod y4.Rank 10) < (Int.tmod ((nth x9 (i3 : Int)).Rank) 10)))) && (decide (0 < ((nth x9 (i3 : Int)).Rank)))))] [false, true, true, true, true] rfl (subR rfl)
         refine Tn ?_
         obtain ⟨j9, hj9, h⟩ := joinE h
         refine f_join (fun a w' => ∃ x13 : Int, j9 x13 = some r ∧ Sx w [O] φ3 [.blk b9 (GScored.enc (nth x9 (i3 : Int))) 38, .own v10 38 5 x9.length (x9.flatMap GScored.enc), .own v1 38 5 x1.length (x1.flatMap GScored.enc), .blk O [U, iV x4] 25] [(0, .pointer (some ⟨O, 0, none⟩)), (3, v1), (7, v10), (10, iV (i3 : Int)), (11, .pointer (some ⟨b9, 0, none⟩)), (12, iV x13), (16, (.slice (some ⟨b1, 0, none⟩) 3 3)), (17, iV (([k_ra, k_rb, k_rc] : List ByteArray).length : Int)), (18, iV (i1 : Int)), (47, v10), (48, iV (x3.length : Int)), (49, iV (i3 : Int)), (54, v10), (55, iV (x9.length : Int)), (56, iV (i4 : Int))] 114 a w') ?_ ?_
         ·refine f_cond (S.tm rfl) (fun hb4 => ?_) (fun hb4 => ?_)
          ·replace h := iteT h hb4
           refine Fg (lv S (Rm (S.tm rfl)) rfl ?_);clear S;intro a S
           refine lv S (rn_add (S.tm rfl) rfl) rfl ?_;clear S;intro a S
           refine lv S (Ra (S.tm rfl)) rfl ?_;clear S;intro a S
           refine Ld ?_
           replace S := S.nk [.blk b9 (GScored.enc (nth x9 (i3 : Int))) 38, .own v10 38 5 x9.length (x9.flatMap GScored.enc), .own v1 38 5 x1.length (x1.flatMap GScored.enc), .blk O [U, iV x4] 25] [(0, .pointer (some ⟨O, 0, none⟩)), (3, v1), (7, v10), (10, iV (i3 : Int)), (11, .pointer (some ⟨b9, 0, none⟩)), (12, iV (W (x11 + 1))), (16, (.slice (some ⟨b1, 0, none⟩) 3 3)), (17, iV (([k_ra, k_rb, k_rc] : List ByteArray).length : Int)), (18, iV (i1 : Int)), (47, v10), (48, iV (x3.length : Int)), (49, iV (i3 : Int)), (54, v10), (55, iV (x9.length : Int)), (56, iV (i4 : Int))] [true, true, true, true] rfl (subR rfl)
           refine Tn ?_
           exact ⟨W (x11 + 1), h, S.nf [true, true, true, true] rfl (subR rfl)⟩
          ·replace h := iteF h hb4
           refine wp_skip (Tn ?_)
           exact ⟨x11, h, S.nf [true, true, true, true] rfl (subR rfl)⟩
         clear S h;rintro a w29 ⟨x13, h, S⟩;rw [hj9] at h;clear hj9 j9
         refine blk_n (Tn ?_)
         exact ⟨x13, h, S.nf [true, true, true, true] rfl (subR rfl)⟩
        clear S h;rintro a w24 ⟨x12, h, S⟩;rw [hj8] at h;clear hj8 j8
        refine Tn (Fg (lv S (rn_add (S.tm rfl) rfl) rfl ?_));clear S;intro a S
        refine lv S (Rm (S.tm rfl)) rfl ?_;clear S;intro a S
        refine Ld ?_
        replace S := S.nk [.blk b9 (GScored.enc (nth x9 (i3 : Int))) 38, .own v10 38 5 x9.length (x9.flatMap GScored.enc), .own v1 38 5 x1.length (x1.flatMap GScored.enc), .blk O [U, iV x4] 25] [(0, .pointer (some ⟨O, 0, none⟩)), (3, v1), (7, v10), (10, iV (i3 : Int)), (11, .pointer (some ⟨b9, 0, none⟩)), (12, iV x12), (16, (.slice (some ⟨b1, 0, none⟩) 3 3)), (17, iV (([k_ra, k_rb, k_rc] : List ByteArray).length : Int)), (18, iV (i1 : Int)), (47, v10), (48, iV (x3.length : Int)), (49, iV (i3 : Int)), (54, v10), (55, iV (x9.length : Int)), (56, iV (W ((i4 : Int) + 1)))] [true, true, true, true] rfl (subR rfl)
        refine Tn ?_
        exact ⟨ys4, ⟨i4 + 1, x12, ⟨_, (hd4).trans (List.append_cons _ _ _), by simp [hi4]⟩, h, S.nf [true, true, true, true] rfl ⟨rfl, rfl, rfl, rfl, rfl, rfl, rfl, rfl, rfl, rfl, rfl, rfl, rfl, rfl, (congrArg (fun z => some (Value.int .i64 z)) (rng_next hd4 hi4 hm5)), trivial⟩⟩, Nat.lt_succ_self _⟩
      clear S h;rintro a w23 ⟨x11, h, S⟩;rw [hj7] at h;clear hj7 j7
      refine Tn (Fs (Fg (lv S (rn_fld fa_38_3 (S.tm rfl)) rfl ?_)));clear S;intro a S
      refine lv S (rn_load Tryz.isAgg3 (S.tm rfl) (S.cell (i := 0) rfl rfl)) rfl ?_;clear S;intro a S
      refine lv S (rn_gtr (S.tm rfl) rfl) rfl ?_;clear S;intro a S
      refine Ld ?_
      replace S := S.nk [.blk b9 (GScored.enc (nth x9 (i3 : Int))) 38, .own v10 38 5 x9.length (x9.flatMap GScored.enc), .own v1 38 5 x1.length (x1.flatMap GScored.enc), .blk O [U, iV x4] 25] [(0, .pointer (some ⟨O, 0, none⟩)), (3, v1), (7, v10), (10, iV (i3 : Int)), (11, .pointer (some ⟨b9, 0, none⟩)), (12, iV x11), (16, (.slice (some ⟨b1, 0, none⟩) 3 3)), (17, iV (([k_ra, k_rb, k_rc] : List ByteArray).length : Int)), (18, iV (i1 : Int)), (47, v10), (48, iV (x3.length : Int)), (49, iV (i3 : Int)), (82, bV (decide (0 < ((nth x9 (i3 : Int)).Rank))))] [true, true, true, true] rfl (subR rfl)
      refine Tn ?_
      obtain ⟨j10, hj10, h⟩ := joinE h
      refine f_join (fun a w' => ∃ x14 : List GScored, j10 x14 = some r ∧ Sx w [O] φ3 [.own v10 38 5 x14.length (x14.flatMap GScored.enc), .own v1 38 5 x1.length (x1.flatMap GScored.enc), .blk O [U, iV x4] 25] [(0, .pointer (some ⟨O, 0, none⟩)), (3, v1), (7, v10), (16, (.slice (some ⟨b1, 0, none⟩) 3 3)), (17, iV (([k_ra, k_rb, k_rc] : List ByteArray).length : Int)), (18, iV (i1 : Int)), (47, v10), (48, iV (x3.length : Int)), (49, iV (i3 : Int))] 114 a w') ?_ ?_
      ·refine f_cond (S.tm rfl) (fun hb5 => ?_) (fun hb5 => ?_)
       ·replace h := iteT h hb5
        refine Fg (lv S (Rm (S.tm rfl)) rfl ?_);clear S;intro a S
        refine lv S (Rm (S.tm rfl)) rfl ?_;clear S;intro a S
        refine lv S (rn_fld fa_38_3 (S.tm rfl)) rfl ?_;clear S;intro a S
        refine lv S (rn_load Tryz.isAgg3 (S.tm rfl) (S.cell (i := 0) rfl rfl)) rfl ?_;clear S;intro a S
        refine lv S (Rm (S.tm rfl)) rfl ?_;clear S;intro a S
        refine lv S (rn_mul rfl (S.tm rfl)) rfl ?_;clear S;intro a S
        refine lv S (rn_add (S.tm rfl) (S.tm rfl)) rfl ?_;clear S;intro a S
        obtain ⟨hc3, h⟩ := chkE h
        obtain ⟨b12, hg3, hr9⟩ := rn_indexS (a := a) (x := .tmp 83) (y := .tmp 84) (ty := 0) sl_26 GScored.enc_ok S (i := 1) rfl (inB_get hc3).1 (inB_get hc3).2 (S.tm rfl) (S.tm rfl)
        refine lv S (hr9 _) rfl ?_;clear S;intro a S
        clear hr9
        refine lv S (rn_fld fa_38_3 (S.tm rfl)) rfl ?_;clear S;intro a S
        refine l_storeO (c := 3) (j := (i3 : Int).toNat) (GScored.mk ((nth x9 (i3 : Int)).Race) ((nth x9 (i3 : Int)).Who) ((nth x9 (i3 : Int)).Club) (W (((nth x9 (i3 : Int)).Rank) + (W (10 * x11)))) ((nth x9 (i3 : Int)).Relay)) GScored.enc_ok S (S.tm rfl) (S.tm rfl) (i := 1) rfl hg3 (inB_get hc3).1 Tryz.sizeOf3 (vs := [iV (W (((nth x9 (i3 : Int)).Rank) + (W (10 * x11))))]) rfl rfl rfl rfl rfl ?_;clear S;intro w32 hk18 S
        refine Ld ?_
        replace S := S.nk [.own v10 38 5 (x9.set ((i3 : Int).toNat) (GScored.mk ((nth x9 (i3 : Int)).Race) ((nth x9 (i3 : Int)).Who) ((nth x9 (i3 : Int)).Club) (W (((nth x9 (i3 : Int)).Rank) + (W (10 * x11)))) ((nth x9 (i3 : Int)).Relay))).length ((x9.set ((i3 : Int).toNat) (GScored.mk ((nth x9 (i3 : Int)).Race) ((nth x9 (i3 : Int)).Who) ((nth x9 (i3 : Int)).Club) (W (((nth x9 (i3 : Int)).Rank) + (W (10 * x11)))) ((nth x9 (i3 : Int)).Relay))).flatMap GScored.enc), .own v1 38 5 x1.length (x1.flatMap GScored.enc), .blk O [U, iV x4] 25] [(0, .pointer (some ⟨O, 0, none⟩)), (3, v1), (7, v10), (16, (.slice (some ⟨b1, 0, none⟩) 3 3)), (17, iV (([k_ra, k_rb, k_rc] : List ByteArray).length : Int)), (18, iV (i1 : Int)), (47, v10), (48, iV (x3.length : Int)), (49, iV (i3 : Int))] [false, true, true, true] rfl (subR rfl)
        refine Tn ?_
        exact ⟨(x9.set ((i3 : Int).toNat) (GScored.mk ((nth x9 (i3 : Int)).Race) ((nth x9 (i3 : Int)).Who) ((nth x9 (i3 : Int)).Club) (W (((nth x9 (i3 : Int)).Rank) + (W (10 * x11)))) ((nth x9 (i3 : Int)).Relay))), h, S.nf [true, true, true] rfl (subR rfl)⟩
       ·replace h := iteF h hb5
        refine wp_skip (Tn ?_)
        exact ⟨x9, h, S.nf [false, true, true, true] rfl (subR rfl)⟩
      clear S h;rintro a w30 ⟨x14, h, S⟩;rw [hj10] at h;clear hj10 j10
      refine blk_n (Tn ?_)
      exact ⟨x14, h, S.nf [true, true, true] rfl (subR rfl)⟩
     clear S h;rintro a w19 ⟨x10, h, S⟩;rw [hj6] at h;clear hj6 j6
     refine Tn (Fg (lv S (rn_add (S.tm rfl) rfl) rfl ?_));clear S;intro a S
     refine lv S (Rm (S.tm rfl)) rfl ?_;clear S;intro a S
     refine Ld (Tn ?_)
     exact ⟨ys3, ⟨i3 + 1, x10, v10, ⟨_, (hd3).trans (List.append_cons _ _ _), by simp [hi3]⟩, h, S.nf [true, true, true] rfl ⟨rfl, rfl, rfl, rfl, rfl, rfl, rfl, rfl, (congrArg (fun z => some (Value.int .i64 z)) (rng_next hd3 hi3 hm3)), trivial⟩⟩, Nat.lt_succ_self _⟩
   clear S h;rintro a w18 ⟨x9, v10, h, S⟩;rw [hj5] at h;clear hj5 j5
   refine Tn (Fs (Fs (Fg (lv S (Rm (S.tm rfl)) rfl ?_))));clear S;intro a S
   refine lv S (rn_lenT sl_26 (S.tm rfl) (own_len (S.own_at (i := 0) rfl))) rfl ?_;clear S;intro a S
   refine lv S (Rm rfl) rfl ?_;clear S;intro a S
   refine Ld (Tn ?_)
   replace S := S.nk [.own v10 38 5 x9.length (x9.flatMap GScored.enc), .own v1 38 5 x1.length (x1.flatMap GScored.enc), .blk O [U, iV x4] 25] [(0, .pointer (some ⟨O, 0, none⟩)), (3, v1), (7, v10), (16, (.slice (some ⟨b1, 0, none⟩) 3 3)), (17, iV (([k_ra, k_rb, k_rc] : List ByteArray).length : Int)), (18, iV (i1 : Int)), (94, iV (x9.length : Int)), (95, iV 0)] [true, true, true] rfl (subR rfl)
   have hm8 := own_max (S.own_at (i := 0) rfl)
   obtain ⟨j11, hj11, h⟩ := joinE h
   refine f_join (fun a w' => ∃ x15 : List GScored, ∃ v11 : Value, j11 x15 = some r ∧ Sx w [O] φ3 [.own v11 38 5 x15.length (x15.flatMap GScored.enc), .own v1 38 5 x1.length (x1.flatMap GScored.enc), .blk O [U, iV x4] 25] [(0, .pointer (some ⟨O, 0, none⟩)), (3, v1), (7, v11), (16, (.slice (some ⟨b1, 0, none⟩) 3 3)), (17, iV (([k_ra, k_rb, k_rc] : List ByteArray).length : Int)), (18, iV (i1 : Int))] 114 a w') ?_ ?_
   ·refine wp_block (f_loop (fun (ys5 : List GScored) a w' => ∃ i5 : Nat, ∃ x15 : List GScored, ∃ v11 : Value, (∃ dn, x9 = dn ++ ys5 ∧ dn.length = i5) ∧ Stream_RightScored_l5 j11 ys5 i5 x15 = some r ∧ Sx w [O] φ3 [.own v11 38 5 x15.length (x15.flatMap GScored.enc), .own v1 38 5 x1.length (x1.flatMap GScored.enc), .blk O [U, iV x4] 25] [(0, .pointer (some ⟨O, 0, none⟩)), (3, v1), (7, v11), (16, (.slice (some ⟨b1, 0, none⟩) 3 3)), (17, iV (([k_ra, k_rb, k_rc] : List ByteArray).length : Int)), (18, iV (i1 : Int)), (94, iV (x9.length : Int)), (95, iV (i5 : Int))] 114 a w') List.length x9 ⟨0, x9, v10, ⟨[], rfl, rfl⟩, h, S.nf [true, true, true] rfl (subR rfl)⟩ ?_)
    clear S h;rintro ys5 a w33 ⟨i5, x15, v11, ⟨dn, hd5, hi5⟩, h, S⟩
    cases ys5 with
    | nil =>
     rw [Stream_RightScored_l5.eq_1] at h
     refine Fs (Fg (lv S (rn_lss (S.tm rfl) (S.tm rfl)) rfl ?_));clear S;intro a S
     refine Ld ?_
     replace S := S.nk [.own v11 38 5 x15.length (x15.flatMap GScored.enc), .own v1 38 5 x1.length (x1.flatMap GScored.enc), .blk O [U, iV x4] 25] [(0, .pointer (some ⟨O, 0, none⟩)), (3, v1), (7, v11), (16, (.slice (some ⟨b1, 0, none⟩) 3 3)), (17, iV (([k_ra, k_rb, k_rc] : List ByteArray).length : Int)), (18, iV (i1 : Int)), (94, iV (x9.length : Int)), (95, iV (i5 : Int)), (96, bV (decide ((i5 : Int) < (x9.length : Int))))] [true, true, true] rfl (subR rfl)
     refine Tn (Fs (wp_cond_false ((S.tm rfl).trans (congrArg Value.bool (rng_nil hd5 hi5))) (wp_exit (then_x (then_x (x_same ?_))))))
     refine Tn ?_
     exact ⟨x15, v11, h, S.nf [true, true, true] rfl (subR rfl)⟩
    | cons y5 ys5 =>
     rw [Stream_RightScored_l5.eq_2] at h
     refine Fs (Fg (lv S (rn_lss (S.tm rfl) (S.tm rfl)) rfl ?_));clear S;intro a S
     refine Ld ?_
     replace S := S.nk [.own v11 38 5 x15.length (x15.flatMap GScored.enc), .own v1 38 5 x1.length (x1.flatMap GScored.enc), .blk O [U, iV x4] 25] [(0, .pointer (some ⟨O, 0, none⟩)), (3, v1), (7, v11), (16, (.slice (some ⟨b1, 0, none⟩) 3 3)), (17, iV (([k_ra, k_rb, k_rc] : List ByteArray).length : Int)), (18, iV (i1 : Int)), (94, iV (x9.length : Int)), (95, iV (i5 : Int)), (96, bV (decide ((i5 : Int) < (x9.length : Int))))] [true, true, true] rfl (subR rfl)
     refine Tn (Fs (wp_cond_true ((S.tm rfl).trans (congrArg Value.bool (rng_cons hd5 hi5))) (wp_skip (Tn (Fs (wp_block ?_))))))
     refine Fs (Fg (lv S (Rm (S.tm rfl)) rfl ?_));clear S;intro a S
     refine lv S (Ra (S.tm rfl)) rfl ?_;clear S;intro a S
     refine Ld (Tn (Fg (lv S (Rm (S.tm rfl)) rfl ?_)));clear S;intro a S
     refine lv S (Rm (S.tm rfl)) rfl ?_;clear S;intro a S
     obtain ⟨hc4, h⟩ := chkE h
     obtain ⟨b13, hg4, hr10⟩ := rn_indexS (a := a) (x := .tmp 98) (y := .tmp 99) (ty := 0) sl_26 GScored.enc_ok S (i := 0) rfl (inB_get hc4).1 (inB_get hc4).2 (S.tm rfl) (S.tm rfl)
     refine lv S (hr10 _) rfl ?_;clear S;intro a S
     clear hr10
     refine lv S (rn_fld fa_38_3 (S.tm rfl)) rfl ?_;clear S;intro a S
     refine lv S (rn_ld Tryz.isAgg3 (off := ((i5 : Int).toNat) * 5) (o := 3) (S.tm rfl) (own_cells GScored.enc_ok S (i := 0) rfl hg4 (inB_get hc4).1) rfl) rfl ?_;clear S;intro a S
     refine lv S (rn_quo (S.tm rfl) rfl (by decide)) rfl ?_;clear S;intro a S
     obtain ⟨hc5, h⟩ := chkE h
     obtain ⟨b14, hg5, hr11⟩ := rn_indexS (a := a) (x := .tmp 98) (y := .tmp 99) (ty := 0) sl_26 GScored.enc_ok S (i := 0) rfl (inB_get hc5).1 (inB_get hc5).2 (S.tm rfl) (S.tm rfl)
     refine lv S (hr11 _) rfl ?_;clear S;intro a S
     clear hr11
     refine lv S (rn_fld fa_38_3 (S.tm rfl)) rfl ?_;clear S;intro a S
     refine l_storeO (c := 3) (j := (i5 : Int).toNat) (GScored.mk ((nth x15 (i5 : Int)).Race) ((nth x15 (i5 : Int)).Who) ((nth x15 (i5 : Int)).Club) (W (Int.tdiv ((nth x15 (i5 : Int)).Rank) 10)) ((nth x15 (i5 : Int)).Relay)) GScored.enc_ok S (S.tm rfl) (S.tm rfl) (i := 0) rfl hg5 (inB_get hc5).1 Tryz.sizeOf3 (vs := [iV (W (Int.tdiv ((nth x15 (i5 : Int)).Rank) 10))]) rfl rfl rfl rfl rfl ?_;clear S;intro w36 hk20 S
     refine Ld ?_
     replace S := S.nk [.own v11 38 5 (x15.set ((i5 : Int).toNat) (GScored.mk ((nth x15 (i5 : Int)).Race) ((nth x15 (i5 : Int)).Who) ((nth x15 (i5 : Int)).Club) (W (Int.tdiv ((nth x15 (i5 : Int)).Rank) 10)) ((nth x15 (i5 : Int)).Relay))).length ((x15.set ((i5 : Int).toNat) (GScored.mk ((nth x15 (i5 : Int)).Race) ((nth x15 (i5 : Int)).Who) ((nth x15 (i5 : Int)).Club) (W (Int.tdiv ((nth x15 (i5 : Int)).Rank) 10)) ((nth x15 (i5 : Int)).Relay))).flatMap GScored.enc), .own v1 38 5 x1.length (x1.flatMap GScored.enc), .blk O [U, iV x4] 25] [(0, .pointer (some ⟨O, 0, none⟩)), (3, v1), (7, v11), (16, (.slice (some ⟨b1, 0, none⟩) 3 3)), (17, iV (([k_ra, k_rb, k_rc] : List ByteArray).length : Int)), (18, iV (i1 : Int)), (94, iV (x9.length : Int)), (95, iV (i5 : Int))] [true, true, true] rfl (subR rfl)
     refine blk_n (Tn (Fg (lv S (rn_add (S.tm rfl) rfl) rfl ?_)));clear S;intro a S
     refine lv S (Rm (S.tm rfl)) rfl ?_;clear S;intro a S
     refine Ld (Tn ?_)
     exact ⟨ys5, ⟨i5 + 1, (x15.set ((i5 : Int).toNat) (GScored.mk ((nth x15 (i5 : Int)).Race) ((nth x15 (i5 : Int)).Who) ((nth x15 (i5 : Int)).Club) (W (Int.tdiv ((nth x15 (i5 : Int)).Rank) 10)) ((nth x15 (i5 : Int)).Relay))), v11, ⟨_, (hd5).trans (List.append_cons _ _ _), by simp [hi5]⟩, h, S.nf [true, true, true] rfl ⟨rfl, rfl, rfl, rfl, rfl, rfl, rfl, (congrArg (fun z => some (Value.int .i64 z)) (rng_next hd5 hi5 hm8)), trivial⟩⟩, Nat.lt_succ_self _⟩
   clear S h;rintro a w34 ⟨x15, v11, h, S⟩;rw [hj11] at h;clear hj11 j11
   refine Tn (Fs (Fg (lv S (Rm (S.tm rfl)) rfl ?_)));clear S;intro a S
   obtain ⟨r5, hr12, h⟩ := bindE h
   refine l_enterO 0 S rfl (fun _ => .own v11 38 5 r5.length (r5.flatMap GScored.enc)) (fun _ => run_call (vs := [v11, .func (.func 30) #[] #[]]) ⟨(S.tm rfl), rfl, trivial⟩ Tryz.call43) (slices_SortFunc_Scored_tumbref2_ScoredOrder_ok _ v11 x15 (S.holds _ (List.mem_of_getElem? (i := 0) rfl)) _ hr12) rfl (fun _ _ _ h => ⟨h.1, fun _ hc => hc⟩) ?_;clear S;intro v12 a w37 hv5 hk21 hn5 S
   replace hv5 := hv5.2
   subst hv5
   refine Ld (Tn (Fg (lv S (Rm (S.tm rfl)) rfl ?_)));clear S;intro a S
   refine lv S (Rm (S.tm rfl)) rfl ?_;clear S;intro a S
   obtain ⟨hc6, h⟩ := chkE h
   refine l_appendS (Y := []) sl_26 GScored.enc_ok S (S.tm rfl) (i := 1) rfl (S.tm rfl) (own_slcT GScored.enc_ok S (i := 0) rfl (fun _ _ h => by cases h)) rfl rfl (by have := room_lt hc6;omega) rfl ?_;clear S;intro v13 a w38 hk22 S
   refine lv S (Ra (S.tm rfl)) rfl ?_;clear S;intro a S
   refine Ld (blk_n (Tn (Fg (lv S (rn_add (S.tm rfl) rfl) rfl ?_))));clear S;intro a S
   refine lv S (Rm (S.tm rfl)) rfl ?_;clear S;intro a S
   refine Ld (Tn ?_)
   exact ⟨ys1, ⟨i1 + 1, (x1 ++ r5), x4, φ3, v13, ⟨_, (hd1).trans (List.append_cons _ _ _), by simp [hi1]⟩, h, (View.le_trans hl2 hl3), S.nf [false, true, true] rfl ⟨rfl, rfl, rfl, rfl, (congrArg (fun z => some (Value.int .i64 z)) (rng_next hd1 hi1 (slc_max (ownV_slcT enc_str hs1)))), trivial⟩⟩, Nat.lt_succ_self _⟩
 clear S h;rintro a w3 ⟨x1, x2, φ2, v1, h, hl2, S⟩;rw [hj1] at h;clear hj1 j1
 refine Tn (Fs (Fg (lv S (Rm (S.tm rfl)) rfl ?_)));clear S;intro a S
 refine lv S (Ra (S.tm rfl)) rfl ?_;clear S;intro a S
 refine Ld (Tn (wp_ret ?_))
 obtain rfl := Option.some.inj h
 exact f_ret S Tryz.results13 rfl ⟨(S.holds _ (List.mem_of_getElem? (i := 1) rfl)), (own_retX S (i := 0) rfl (fun c hc hh => not_fps S (i := 1) rfl rfl (j := 0) rfl rfl (by simp at hc;subst hc;exact hh)))⟩
theorem Stream_Range_ok (w : World) (O : Nat) (U : Value) (Ae : List Int) (Ag : Slc (view w [O]) 1 U (Ae.map eInt)) (Aa : Int) (Aw : (LEnt.blk O [U, iV Aa] 25).holds w) (Au : Int) (As : Int) (r : Int × Int) (h : Stream_Range Ae Aa Au As = some r) :
    Calls Tryz.prog 15 [.pointer (some ⟨O, 0, none⟩), iV Au, iV As].toArray w (Ret w [O] fun _ v w' => (LEnt.blk O [U, iV r.2] 25).holds w' ∧ v = iV r.1) := by
 refine f_enter [O] [.blk O [U, iV Aa] 25] Tryz.func15 rfl Tryz.ntmps15 rfl (fun e he => by simp only [List.mem_singleton] at he;subst he;exact Aw) (by simp [fps, LEnt.fp]) (by simp [fps, LEnt.fp]) fun a S => ?_
 unfold Stream_Range at h
 replace S := S.nk [.blk O [U, iV Aa] 25] [(0, .pointer (some ⟨O, 0, none⟩)), (1, iV Au), (2, iV As)] [true] rfl (subR rfl)
 refine Fs (Fg (lv S (Ra rfl) rfl ?_));clear S;intro a S
 refine Ld (Tn (Fs (Fs (Fg (lv S (Rm (S.tm rfl)) rfl ?_)))));clear S;intro a S
 refine lv S (Rm (S.tm rfl)) rfl ?_;clear S;intro a S
 refine lv S (rn_lss (S.tm rfl) (S.tm rfl)) rfl ?_;clear S;intro a S
 refine Ld (Tn (f_cond (S.tm rfl) (fun hb1 => ?_) (fun hb1 => ?_)))
 ·replace h := iteT h hb1
  refine Fs (Fg (lv S (Rm (S.tm rfl)) rfl ?_));clear S;intro a S
  refine lv S (Ra (S.tm rfl)) rfl ?_;clear S;intro a S
  refine Ld (Tn (wp_ret (then_r ?_)))
  obtain rfl := Option.some.inj h
  exact f_ret S Tryz.results15 rfl ⟨(S.holds _ (List.mem_of_getElem? (i := 0) rfl)), rfl⟩
 ·replace h := iteF h hb1
  refine wp_skip (Tn (Fs (Fg (lv S (Rm (S.tm rfl)) rfl ?_))));clear S;intro a S
  iterate 3 (refine lv S (Rm (S.tm rfl)) rfl ?_;clear S;intro a S)
  refine lv S (rn_sub (S.tm rfl) (S.tm rfl)) rfl ?_;clear S;intro a S
  refine lv S (rn_add (S.tm rfl) rfl) rfl ?_;clear S;intro a S
  obtain ⟨r1, hr1, h⟩ := bindE h
  refine l_enter1 0 S (b := O) rfl rfl (fun _ => .blk O [U, iV r1.2] 25) (fun _ => run_call (vs := [.pointer (some ⟨O, 0, none⟩), iV (W ((W (As - Au)) + 1))]) ⟨(S.tm rfl), (S.tm rfl), trivial⟩ Tryz.call17) (Stream_Next_ok _ O U Ae (Ag.mono (S.le_arg (fp_sub (i := 0) (e := .blk O [U, iV Aa] 25) rfl))) Aa (S.holds _ (List.mem_of_getElem? (i := 0) rfl)) (W ((W (As - Au)) + 1)) _ hr1) rfl (fun _ _ _ h => ⟨h.1, fun _ hc => by cases hc;rfl⟩) ?_;clear S;intro v1 a w1 hv1 hk1 hn1 S
  replace hv1 := hv1.2
  subst hv1
  refine lv S (rn_add (S.tm rfl) (S.tm rfl)) rfl ?_;clear S;intro a S
  refine lv S (Ra (S.tm rfl)) rfl ?_;clear S;intro a S
  refine Ld ?_
  replace S := S.nk [.blk O [U, iV r1.2] 25] [(6, iV (W (Au + r1.1)))] [true] rfl ⟨rfl, trivial⟩
  refine Tn (wp_ret ?_)
  obtain rfl := Option.some.inj h
  exact f_ret S Tryz.results15 rfl ⟨(S.holds _ (List.mem_of_getElem? (i := 0) rfl)), rfl⟩
theorem Stream_Odd_ok (w : World) (O : Nat) (U : Value) (Ae : List Int) (Ag : Slc (view w [O]) 1 U (Ae.map eInt)) (Aa : Int) (Aw : (LEnt.blk O [U, iV Aa] 25).holds w) (Au : Int) (As : Int) (r : Int × Int) (h : Stream_Odd Ae Aa Au As = some r) :
    Calls Tryz.prog 18 [.pointer (some ⟨O, 0, none⟩), iV Au, iV As].toArray w (Ret w [O] fun _ v w' => (LEnt.blk O [U, iV r.2] 25).holds w' ∧ v = iV r.1) := by
 refine f_enter [O] [.blk O [U, iV Aa] 25] Tryz.func18 rfl Tryz.ntmps18 rfl (fun e he => by simp only [List.mem_singleton] at he;subst he;exact Aw) (by simp [fps, LEnt.fp]) (by simp [fps, LEnt.fp]) fun a S => ?_
 unfold Stream_Odd at h
 replace S := S.nk [.blk O [U, iV Aa] 25] [(0, .pointer (some ⟨O, 0, none⟩)), (1, iV Au), (2, iV As)] [true] rfl (subR rfl)
 refine Fs (Fg (lv S (Ra rfl) rfl ?_));clear S;intro a S
 refine Ld (Tn (Fs (Fs (Fg (lv S (Rm (S.tm rfl)) rfl ?_)))));clear S;intro a S
 obtain ⟨r1, hr1, h⟩ := bindE h
 refine l_enter1 0 S (b := O) rfl rfl (fun _ => .blk O [U, iV r1.2] 25) (fun _ => run_call (vs := [.pointer (some ⟨O, 0, none⟩), iV 12]) ⟨(S.tm rfl), rfl, trivial⟩ Tryz.call14) (Stream_Flip_ok _ O U Ae (Ag.mono (S.le_arg (fp_sub (i := 0) (e := .blk O [U, iV Aa] 25) rfl))) Aa (S.holds _ (List.mem_of_getElem? (i := 0) rfl)) 12 _ hr1) rfl (fun _ _ _ h => ⟨h.1, fun _ hc => by cases hc;rfl⟩) ?_;clear S;intro v1 a w1 hv1 hk1 hn1 S
 replace hv1 := hv1.2
 subst hv1
 refine Ld (Tn (f_cond (S.tm rfl) (fun hb1 => ?_) (fun hb1 => ?_)))
 ·replace h := iteT h hb1
  refine Fs (Fg (lv S (Rm (S.tm rfl)) rfl ?_));clear S;intro a S
  refine lv S (Rm (S.tm rfl)) rfl ?_;clear S;intro a S
  refine lv S (rn_sub (S.tm rfl) rfl) rfl ?_;clear S;intro a S
  refine lv S (Rm (S.tm rfl)) rfl ?_;clear S;intro a S
  refine lv S (rn_add (S.tm rfl) rfl) rfl ?_;clear S;intro a S
  refine lv S (Rm (S.tm rfl)) rfl ?_;clear S;intro a S
  refine lv S (Rm (S.tm rfl)) rfl ?_;clear S;intro a S
  refine l_buildSlice S Tryz.underlying22 Tryz.sizeOf3 Tryz.zeroValue3 rfl rfl (pv := [(0, iV (W (Au - 1))), (1, iV (W (As + 1))), (2, iV Au), (3, iV As), (4, iV (-1099511627776)), (5, iV 1099511627776)]) ⟨rfl, (S.tm rfl), rfl, (S.tm rfl), rfl, (S.tm rfl), rfl, (S.tm rfl), rfl, rfl, rfl, rfl, trivial⟩ (cs := [iV (W (Au - 1)), iV (W (As + 1)), iV Au, iV As, iV (-1099511627776), iV 1099511627776]) (by kernel_rfl) rfl ?_;clear S;intro a w2 b1 hz1 hk2 S
  obtain ⟨r2, hr2, h⟩ := bindE h
  refine l_enter1 1 S (b := O) rfl rfl (fun _ => .blk O [U, iV r2.2] 25) (fun _ => run_call (vs := [.pointer (some ⟨O, 0, none⟩), .slice (some ⟨b1, 0, none⟩) 6 6]) ⟨(S.tm rfl), (S.tm rfl), trivial⟩ Tryz.call19) (Stream_Pick_ok _ O U Ae (Ag.mono (S.le_arg (fp_sub (i := 1) (e := .blk O [U, iV r1.2] 25) rfl))) r1.2 (S.holds _ (List.mem_of_getElem? (i := 1) rfl)) (.slice (some ⟨b1, 0, none⟩) 6 6) [W (Au - 1), W (As + 1), Au, As, (-1099511627776), 1099511627776] (lit_slcT enc_int S (i := 0) rfl rfl rfl rfl ((ne_fp (i := 1) (j := 0) (e := .blk O [U, iV r1.2] 25) (e' := .blk b1 [iV (W (Au - 1)), iV (W (As + 1)), iV Au, iV As, iV (-1099511627776), iV 1099511627776] 3) S rfl rfl rfl) _ rfl)) _ hr2) rfl (fun _ _ _ h => ⟨h.1, fun _ hc => by cases hc;rfl⟩) ?_;clear S;intro v2 a w3 hv2 hk3 hn2 S
  replace hv2 := hv2.2
  subst hv2
  refine lv S (Ra (S.tm rfl)) rfl ?_;clear S;intro a S
  refine Ld ?_
  replace S := S.nk [.blk O [U, iV r2.2] 25] [(6, iV r2.1)] [false, true] rfl ⟨rfl, trivial⟩
  refine Tn (wp_ret (then_r ?_))
  obtain rfl := Option.some.inj h
  exact f_ret S Tryz.results18 rfl ⟨(S.holds _ (List.mem_of_getElem? (i := 0) rfl)), rfl⟩
 ·replace h := iteF h hb1
  refine wp_skip (Tn (Fs (Fg (lv S (Rm (S.tm rfl)) rfl ?_))));clear S;intro a S
  refine lv S (Rm (S.tm rfl)) rfl ?_;clear S;intro a S
  refine lv S (Rm (S.tm rfl)) rfl ?_;clear S;intro a S
  obtain ⟨r3, hr3, h⟩ := bindE h
  refine l_enter1 0 S (b := O) rfl rfl (fun _ => .blk O [U, iV r3.2] 25) (fun _ => run_call (vs := [.pointer (some ⟨O, 0, none⟩), iV Au, iV As]) ⟨(S.tm rfl), (S.tm rfl), (S.tm rfl), trivial⟩ Tryz.call15) (Stream_Range_ok _ O U Ae (Ag.mono (S.le_arg (fp_sub (i := 0) (e := .blk O [U, iV r1.2] 25) rfl))) r1.2 (S.holds _ (List.mem_of_getElem? (i := 0) rfl)) Au As _ hr3) rfl (fun _ _ _ h => ⟨h.1, fun _ hc => by cases hc;rfl⟩) ?_;clear S;intro v3 a w4 hv3 hk4 hn3 S
  replace hv3 := hv3.2
  subst hv3
  refine lv S (Ra (S.tm rfl)) rfl ?_;clear S;intro a S
  refine Ld (Tn (wp_ret ?_))
  obtain rfl := Option.some.inj h
  exact f_ret S Tryz.results18 rfl ⟨(S.holds _ (List.mem_of_getElem? (i := 0) rfl)), rfl⟩
theorem Stream_Scored_ok (w : World) (O : Nat) (U : Value) (Ae : List Int) (Ag : Slc (view w [O]) 1 U (Ae.map eInt)) (Aa : Int) (Aw : (LEnt.blk O [U, iV Aa] 25).holds w) (r : (List GScored) × Int) (h : Stream_Scored Ae Aa = some r) :
    Calls Tryz.prog 4 [.pointer (some ⟨O, 0, none⟩)].toArray w (Ret w [O] fun τ v w' => (LEnt.blk O [U, iV r.2] 25).holds w' ∧ OwnV τ 38 5 v r.1.length (r.1.flatMap GScored.enc)) := by
 refine f_enter [O] [.blk O [U, iV Aa] 25] Tryz.func4 rfl Tryz.ntmps4 rfl (fun e he => by simp only [List.mem_singleton] at he;subst he;exact Aw) (by simp [fps, LEnt.fp]) (by simp [fps, LEnt.fp]) fun a S => ?_
 unfold Stream_Scored at h
 replace S := S.nk [.blk O [U, iV Aa] 25] [(0, .pointer (some ⟨O, 0, none⟩))] [true] rfl ⟨rfl, trivial⟩
 refine Fs (Fg (lv S (Ra rfl) rfl ?_));clear S;intro a S
 refine Ld (Tn (Fs (Fg (lv S (Rm (S.tm rfl)) rfl ?_))));clear S;intro a S
 obtain ⟨r1, hr1, h⟩ := bindE h
 have hz1 := S.keep.size
 refine l_enter1 0 S (b := O) rfl rfl (fun _ => .blk O [U, iV r1.2] 25) (fun _ => run_call (vs := [.pointer (some ⟨O, 0, none⟩)]) ⟨(S.tm rfl), trivial⟩ Tryz.call13) (Stream_RightScored_ok _ O U Ae (Ag.mono (S.le_arg (fp_sub (i := 0) (e := .blk O [U, iV Aa] 25) rfl))) Aa (S.holds _ (List.mem_of_getElem? (i := 0) rfl)) _ hr1) rfl (fun _ _ _ h => ⟨h.1, fun _ hc => by cases hc;rfl⟩) ?_;clear S;intro v1 a w1 hv1 hk1 hn1 S
 replace hv1 := hv1.2
 replace S := S.take hn1 hz1 hv1
 refine lv S (Ra (S.tm rfl)) rfl ?_;clear S;intro a S
 refine Ld (Tn (Fs (Fs (Fg (lv S (Rm (S.tm rfl)) rfl ?_)))));clear S;intro a S
 obtain ⟨r2, hr2, h⟩ := bindE h
 refine l_enter1 1 S (b := O) rfl rfl (fun _ => .blk O [U, iV r2.2] 25) (fun _ => run_call (vs := [.pointer (some ⟨O, 0, none⟩), iV 20]) ⟨(S.tm rfl), rfl, trivial⟩ Tryz.call14) (Stream_Flip_ok _ O U Ae (Ag.mono (S.le_arg (fp_sub (i := 1) (e := .blk O [U, iV r1.2] 25) rfl))) r1.2 (S.holds _ (List.mem_of_getElem? (i := 1) rfl)) 20 _ hr2) rfl (fun _ _ _ h => ⟨h.1, fun _ hc => by cases hc;rfl⟩) ?_;clear S;intro v2 a w2 hv2 hk2 hn2 S
 replace hv2 := hv2.2
 subst hv2
 refine Ld (Tn ?_)
 obtain ⟨j1, hj1, h⟩ := joinE h
 refine f_join (fun a w' => ∃ x1 : Int, ∃ x2 : List GScored, ∃ v3 : Value, j1 x1 x2 = some r ∧ Sx w [O] nov [.own v3 38 5 x2.length (x2.flatMap GScored.enc), .blk O [U, iV x1] 25] [(0, .pointer (some ⟨O, 0, none⟩)), (3, v3)] 88 a w') ?_ ?_
 ·refine f_cond (S.tm rfl) (fun hb1 => ?_) (fun hb1 => ?_)
  ·replace h := iteT h hb1
   refine Fs (Fg (lv S (Ra rfl) rfl ?_));clear S;intro a S
   replace S := S.nil 38 5
   refine Ld (Tn (Fs (Fg (lv S (Rm (S.tm rfl)) rfl ?_))));clear S;intro a S
   obtain ⟨r3, hr3, h⟩ := bindE h
   refine l_enter1 2 S (b := O) rfl rfl (fun _ => .blk O [U, iV r3.2] 25) (fun _ => run_call (vs := [.pointer (some ⟨O, 0, none⟩), iV 9, iV 12]) ⟨(S.tm rfl), rfl, rfl, trivial⟩ Tryz.call15) (Stream_Range_ok _ O U Ae (Ag.mono (S.le_arg (fp_sub (i := 2) (e := .blk O [U, iV r2.2] 25) rfl))) r2.2 (S.holds _ (List.mem_of_getElem? (i := 2) rfl)) 9 12 _ hr3) rfl (fun _ _ _ h => ⟨h.1, fun _ hc => by cases hc;rfl⟩) ?_;clear S;intro v4 a w4 hv3 hk3 hn3 S
   replace hv3 := hv3.2
   subst hv3
   refine lv S (Rm rfl) rfl ?_;clear S;intro a S
   refine Ld (Tn ?_)
   replace S := S.nk [.own (.slice none 0 0) 38 5 ([] : List GScored).length (([] : List GScored).flatMap GScored.enc), .blk O [U, iV r3.2] 25] [(0, .pointer (some ⟨O, 0, none⟩)), (3, (.slice none 0 0)), (11, iV r3.1), (12, iV 0)] [true, false, true] rfl (subR rfl)
   obtain ⟨j2, hj2, h⟩ := joinE h
   refine f_join (fun a w' => ∃ x3 : List GScored, ∃ x4 : Int, ∃ v5 : Value, j2 x3 x4 = some r ∧ Sx w [O] nov [.own v5 38 5 x3.length (x3.flatMap GScored.enc), .blk O [U, iV x4] 25] [(0, .pointer (some ⟨O, 0, none⟩)), (3, v5)] 88 a w') ?_ ?_
   ·refine wp_block (f_loop (fun (m1 : Nat) a w' => ∃ x3 : List GScored, ∃ x4 : Int, ∃ x5 : Int, ∃ v5 : Value, Stream_Scored_l1 r3 Ae j2 m1 x3 x4 x5 = some r ∧ Sx w [O] nov [.own v5 38 5 x3.length (x3.flatMap GScored.enc), .blk O [U, iV x4] 25] [(0, .pointer (some ⟨O, 0, none⟩)), (3, v5), (11, iV r3.1), (12, iV x5)] 88 a w') id ((r3.1 - 0).toNat + 2) ⟨([] : List GScored), r3.2, 0, (.slice none 0 0), h, S.nf [true, true] rfl (subR rfl)⟩ ?_)
    clear S h;rintro m1 a w5 ⟨x3, x4, x5, v5, h, S⟩
    cases m1 with
    | zero => rw [Stream_Scored_l1.eq_1] at h;cases h
    | succ m1 =>
     rw [Stream_Scored_l1.eq_2] at h
     refine Fs (Fg (lv S (rn_lss (S.tm rfl) (S.tm rfl)) rfl ?_));clear S;intro a S
     refine Ld (Tn (Fs (f_cond (S.tm rfl) (fun hb2 => ?_) (fun hb2 => ?_))))
     ·replace h := iteT h hb2
      refine wp_skip (Tn (Fs (wp_block (Fs (Fg (lv S (Rm (S.tm rfl)) rfl ?_))))));clear S;intro a S
      refine lv S (Ra (S.tm rfl)) rfl ?_;clear S;intro a S
      refine Ld (Tn (Fg (lv S (Rm (S.tm rfl)) rfl ?_)));clear S;intro a S
      refine lv S (Rm (S.tm rfl)) rfl ?_;clear S;intro a S
      refine lv S (rn_add rfl (S.tm rfl)) rfl ?_;clear S;intro a S
      refine lv S (rn_conv Tryz.underlying3 Tryz.underlying21 (S.tm rfl)) rfl ?_;clear S;intro a S
      refine lv S (rn_runestr Tryz.underlying21 Tryz.underlying9 (S.tm rfl)) rfl ?_;clear S;intro a S
      refine lv S (Rm (S.tm rfl)) rfl ?_;clear S;intro a S
      refine l_buildSlice S Tryz.underlying59 Tryz.sizeOf9 Tryz.zeroValue9 rfl rfl (pv := [(0, sV k_blue), (1, sV k_red)]) ⟨rfl, rfl, rfl, rfl, trivial⟩ (cs := [sV k_blue, sV k_red]) (by kernel_rfl) rfl ?_;clear S;intro a w7 b1 hz2 hk4 S
      obtain ⟨r4, hr4, h⟩ := bindE h
      refine l_enter1 2 S (b := O) rfl rfl (fun _ => .blk O [U, iV r4.2] 25) (fun _ => run_call (vs := [.pointer (some ⟨O, 0, none⟩), .slice (some ⟨b1, 0, none⟩) 2 2]) ⟨(S.tm rfl), (S.tm rfl), trivial⟩ Tryz.call16) (Stream_Some_ok _ O U Ae (Ag.mono (S.le_arg (fp_sub (i := 2) (e := .blk O [U, iV x4] 25) rfl))) x4 (S.holds _ (List.mem_of_getElem? (i := 2) rfl)) (.slice (some ⟨b1, 0, none⟩) 2 2) [k_blue, k_red] (lit_slcT enc_str S (i := 0) rfl rfl rfl rfl ((ne_fp (i := 2) (j := 0) (e := .blk O [U, iV x4] 25) (e' := .blk b1 [sV k_blue, sV k_red] 9) S rfl rfl rfl) _ rfl)) _ hr4) rfl (fun _ _ _ h => ⟨h.1, fun _ hc => by cases hc;rfl⟩) ?_;clear S;intro v6 a w8 hv4 hk5 hn4 S
      replace hv4 := hv4.2
      subst hv4
      refine lv S (rn_bld bt_38 (pv := [(0, sV k_ra), (1, sV (Utf8.encode (IntKind.wrap .i32 (W (97 + x5))))), (2, sV r4.1), (3, iV 1)]) ⟨rfl, rfl, rfl, (S.tm rfl), rfl, (S.tm rfl), rfl, rfl, trivial⟩ (cs := [sV k_ra, sV (Utf8.encode (IntKind.wrap .i32 (W (97 + x5)))), sV r4.1, iV 1, bV false]) (by kernel_rfl)) rfl ?_;clear S;intro a S
      refine l_buildSlice S Tryz.underlying26 Tryz.sizeOf38 Tryz.zeroValue38 rfl rfl (pv := [(0, .agg #[sV k_ra, sV (Utf8.encode (IntKind.wrap .i32 (W (97 + x5)))), sV r4.1, iV 1, bV false])]) ⟨rfl, (S.tm rfl), trivial⟩ (cs := [sV k_ra, sV (Utf8.encode (IntKind.wrap .i32 (W (97 + x5)))), sV r4.1, iV 1, bV false]) (by kernel_rfl) rfl ?_;clear S;intro a w9 b2 hz3 hk6 S
      obtain ⟨hc1, h⟩ := chkE h
      refine l_appendT sl_26 GScored.enc_ok S (S.tm rfl) (i := 2) rfl (S.tm rfl) (j := 0) rfl (ys := [(GScored.mk k_ra (Utf8.encode (IntKind.wrap .i32 (W (97 + x5)))) r4.1 1 false)]) rfl rfl rfl rfl (by have := room_lt hc1;omega) rfl ?_;clear S;intro v7 a w10 hk7 S
      refine lv S (Ra (S.tm rfl)) rfl ?_;clear S;intro a S
      refine Ld ?_
      replace S := S.nk [.own v7 38 5 (x3 ++ [(GScored.mk k_ra (Utf8.encode (IntKind.wrap .i32 (W (97 + x5)))) r4.1 1 false)]).length ((x3 ++ [(GScored.mk k_ra (Utf8.encode (IntKind.wrap .i32 (W (97 + x5)))) r4.1 1 false)]).flatMap GScored.enc), .blk O [U, iV r4.2] 25] [(0, .pointer (some ⟨O, 0, none⟩)), (3, v7), (11, iV r3.1), (12, iV x5)] [false, false, true, true] rfl (subR rfl)
      refine blk_n (Tn (Fg (lv S (rn_add (S.tm rfl) rfl) rfl ?_)));clear S;intro a S
      refine lv S (Rm (S.tm rfl)) rfl ?_;clear S;intro a S
      refine Ld (Tn ?_)
      exact ⟨m1, ⟨(x3 ++ [(GScored.mk k_ra (Utf8.encode (IntKind.wrap .i32 (W (97 + x5)))) r4.1 1 false)]), r4.2, W (x5 + 1), v7, h, S.nf [true, true] rfl ⟨rfl, rfl, rfl, rfl, trivial⟩⟩, Nat.lt_succ_self _⟩
     ·replace h := iteF h hb2
      refine wp_exit (then_x (then_x (x_same (Tn ?_))))
      exact ⟨x3, x4, v5, h, S.nf [true, true] rfl (subR rfl)⟩
   clear S h;rintro a w6 ⟨x3, x4, v5, h, S⟩;rw [hj2] at h;clear hj2 j2
   refine Tn ?_
   exact ⟨x4, x3, v5, h, S.nf [true, true] rfl (subR rfl)⟩
  ·replace h := iteF h hb1
   refine wp_skip (Tn ?_)
   exact ⟨r2.2, r1.1, v1, h, S.nf [true, true] rfl (subR rfl)⟩
 clear S h;rintro a w3 ⟨x1, x2, v3, h, S⟩;rw [hj1] at h;clear hj1 j1
 refine Tn (Fs (Fs (Fg (lv S (Rm (S.tm rfl)) rfl ?_))));clear S;intro a S
 refine lv S (rn_lenT sl_26 (S.tm rfl) (own_len (S.own_at (i := 0) rfl))) rfl ?_;clear S;intro a S
 refine lv S (rn_gtr (S.tm rfl) rfl) rfl ?_;clear S;intro a S
 refine lv S (Rm (S.tm rfl)) rfl ?_;clear S;intro a S
 obtain ⟨j3, hj3, h⟩ := joinE h
 refine f_cutm 3 (fun a w' => ∃ x6 : Int, ∃ x7 : Bool, j3 x6 x7 = some r ∧ Sx w [O] nov [.own v3 38 5 x2.length (x2.flatMap GScored.enc), .blk O [U, iV x6] 25] [(0, .pointer (some ⟨O, 0, none⟩)), (3, v3), (33, bV x7)] 88 a w') ?_ ?_
 ·rcases Bool.eq_false_or_eq_true (decide (0 < (x2.length : Int))) with hb3 | hb3
  ·replace h := iteT h hb3
   refine l_want S rfl rfl rfl hb3 (lv S (Rm (S.tm rfl)) rfl ?_);clear S;intro a S
   refine l_want S rfl rfl rfl hb3 ?_
   obtain ⟨r5, hr5, h⟩ := bindE h
   refine l_enter1 1 S (b := O) rfl rfl (fun _ => .blk O [U, iV r5.2] 25) (fun _ => run_call (vs := [.pointer (some ⟨O, 0, none⟩), iV 12]) ⟨(S.tm rfl), rfl, trivial⟩ Tryz.call14) (Stream_Flip_ok _ O U Ae (Ag.mono (S.le_arg (fp_sub (i := 1) (e := .blk O [U, iV x1] 25) rfl))) x1 (S.holds _ (List.mem_of_getElem? (i := 1) rfl)) 12 _ hr5) rfl (fun _ _ _ h => ⟨h.1, fun _ hc => by cases hc;rfl⟩) ?_;clear S;intro v8 a w12 hv5 hk8 hn5 S
   replace hv5 := hv5.2
   subst hv5
   refine lv S (rn_pick_b hb3 (S.tm rfl) (S.tm rfl)) rfl ?_;clear S;intro a S
   refine Ld (Tn ?_)
   exact ⟨r5.2, r5.1, h, S.nf [true, true] rfl (subR rfl)⟩
  ·replace h := iteF h hb3
   refine l_skip S rfl rfl rfl (neq_f hb3) rfl ?_ rfl;clear S;intro a S
   refine l_skip S rfl rfl rfl (neq_f hb3) rfl ?_ rfl;clear S;intro a S
   refine lv S (rn_pick_c hb3 (S.tm rfl) rfl) rfl ?_;clear S;intro a S
   refine Ld (Tn ?_)
   exact ⟨x1, false, h, S.nf [true, true] rfl (subR rfl)⟩
 clear S h;rintro a w11 ⟨x6, x7, h, S⟩;rw [hj3] at h;clear hj3 j3
 refine Ld (Tn ?_)
 obtain ⟨j4, hj4, h⟩ := joinE h
 refine f_join (fun a w' => ∃ x8 : List GScored, ∃ x9 : Int, j4 x8 x9 = some r ∧ Sx w [O] nov [.own v3 38 5 x8.length (x8.flatMap GScored.enc), .blk O [U, iV x9] 25] [(3, v3)] 88 a w') ?_ ?_
 ·refine f_cond (S.tm rfl) (fun hb4 => ?_) (fun hb4 => ?_)
  ·replace h := iteT h hb4
   refine Fs (Fg (lv S (Rm (S.tm rfl)) rfl ?_));clear S;intro a S
   refine lv S (Rm (S.tm rfl)) rfl ?_;clear S;intro a S
   refine lv S (Rm (S.tm rfl)) rfl ?_;clear S;intro a S
   refine lv S (rn_lenT sl_26 (S.tm rfl) (own_len (S.own_at (i := 0) rfl))) rfl ?_;clear S;intro a S
   obtain ⟨r6, hr6, h⟩ := bindE h
   refine l_enter1 1 S (b := O) rfl rfl (fun _ => .blk O [U, iV r6.2] 25) (fun _ => run_call (vs := [.pointer (some ⟨O, 0, none⟩), iV (x2.length : Int)]) ⟨(S.tm rfl), (S.tm rfl), trivial⟩ Tryz.call17) (Stream_Next_ok _ O U Ae (Ag.mono (S.le_arg (fp_sub (i := 1) (e := .blk O [U, iV x6] 25) rfl))) x6 (S.holds _ (List.mem_of_getElem? (i := 1) rfl)) (x2.length : Int) _ hr6) rfl (fun _ _ _ h => ⟨h.1, fun _ hc => by cases hc;rfl⟩) ?_;clear S;intro v9 a w14 hv6 hk9 hn6 S
   replace hv6 := hv6.2
   subst hv6
   obtain ⟨hc2, h⟩ := chkE h
   obtain ⟨b3, hg1, hr7⟩ := rn_indexS (a := a) (x := .tmp 34) (y := .tmp 38) (ty := 0) sl_26 GScored.enc_ok S (i := 0) rfl (inB_get hc2).1 (inB_get hc2).2 (S.tm rfl) (S.tm rfl)
   refine lv S (hr7 _) rfl ?_;clear S;intro a S
   clear hr7
   refine lv S (Ra (S.tm rfl)) rfl ?_;clear S;intro a S
   refine Ld (Tn (Fs (Fg (lv S (Rm (S.tm rfl)) rfl ?_))));clear S;intro a S
   obtain ⟨r7, hr8, h⟩ := bindE h
   refine l_enter1 1 S (b := O) rfl rfl (fun _ => .blk O [U, iV r7.2] 25) (fun _ => run_call (vs := [.pointer (some ⟨O, 0, none⟩), iV 4]) ⟨(S.tm rfl), rfl, trivial⟩ Tryz.call17) (Stream_Next_ok _ O U Ae (Ag.mono (S.le_arg (fp_sub (i := 1) (e := .blk O [U, iV r6.2] 25) rfl))) r6.2 (S.holds _ (List.mem_of_getElem? (i := 1) rfl)) 4 _ hr8) rfl (fun _ _ _ h => ⟨h.1, fun _ hc => by cases hc;rfl⟩) ?_;clear S;intro v10 a w15 hv7 hk10 hn7 S
   replace hv7 := hv7.2
   subst hv7
   refine Ld (Tn ?_)
   obtain ⟨j5, hj5, h⟩ := joinE h
   refine f_join (fun a w' => ∃ x10 : List GScored, ∃ x11 : Int, j5 x10 x11 = some r ∧ Sx w [O] nov [.own v3 38 5 x10.length (x10.flatMap GScored.enc), .blk O [U, iV x11] 25] [(3, v3)] 88 a w') ?_ ?_
   ·refine wp_block (Fs (Fg (lv S (rn_eql (S.tm rfl) rfl) rfl ?_)));clear S;intro a S
    refine lv S (Ra (S.tm rfl)) rfl ?_;clear S;intro a S
    refine Ld (Tn ?_)
    obtain ⟨j6, hj6, h⟩ := joinE h
    refine f_join (fun a w' => ∃ x12 : List GScored, ∃ x13 : Int, j6 x12 x13 = some r ∧ Sx w [O] nov [.own v3 38 5 x12.length (x12.flatMap GScored.enc), .blk O [U, iV x13] 25] [(3, v3)] 88 a w') ?_ ?_
    ·refine f_cond (S.tm rfl) (fun hb5 => ?_) (fun hb5 => ?_)
     ·replace h := iteT h hb5
      obtain ⟨j7, hj7, h⟩ := joinE h
      refine f_join (fun a w' => ∃ x14 : List GScored, ∃ x15 : Int, j7 x14 x15 = some r ∧ Sx w [O] nov [.own v3 38 5 x14.length (x14.flatMap GScored.enc), .blk O [U, iV x15] 25] [(3, v3)] 88 a w') ?_ ?_
      ·obtain ⟨r8, hr9, h⟩ := bindE h
       obtain ⟨r9, hr10, h⟩ := bindE h
       refine d_region [18, 21] ([O]) Tryz.mixed S rfl (by kernel_rfl) ?_;clear S;intro w27 hk19 hsel S
       refine d_pure 0 S hsel rfl rfl (by kernel_rfl) (by kernel_rfl) rfl (fun _ => (Rm (S.tm rfl))) ?_;clear S;intro a S
       refine d_pure 1 S hsel rfl rfl (by kernel_rfl) (by kernel_rfl) rfl (fun _ => (Rm (S.tm rfl))) ?_;clear S;intro a S
       refine d_pure 2 S hsel rfl rfl (by kernel_rfl) (by kernel_rfl) rfl (fun _ => (Rm (S.tm rfl))) ?_;clear S;intro a S
       refine d_pure 3 S hsel rfl rfl (by kernel_rfl) (by kernel_rfl) rfl (fun _ => (Rm (S.tm rfl))) ?_;clear S;intro a S
       refine d_pure 4 S hsel rfl rfl (by kernel_rfl) (by kernel_rfl) rfl (fun _ => (rn_nilCheck (S.tm rfl))) ?_;clear S;intro a S
       refine d_pure 5 S hsel rfl rfl (by kernel_rfl) (by kernel_rfl) rfl (fun _ => (rn_fld fa_38_0 (S.tm rfl))) ?_;clear S;intro a S
       refine d_quiet 6 S hsel rfl (by kernel_rfl) (by kernel_rfl) (by kernel_rfl) (by kernel_rfl) rfl (fun _ hw => (rn_ld Tryz.isAgg9 (off := r6.1.toNat * 5) (o := 0) (S.tm rfl) ((own_mem GScored.enc_ok S (i := 0) rfl hg1 (inB_get hc2).1 (ne_fp (i := 1) (j := 0) (e := .blk O [U, iV r7.2] 25) (e' := .own v3 38 5 x2.length (x2.flatMap GScored.enc)) S rfl rfl rfl)).kept hw) rfl)) ?_;clear S;intro a S
       refine d_pure 9 S hsel rfl rfl (by kernel_rfl) (by kernel_rfl) rfl (fun _ => (Rm (S.tm rfl))) ?_;clear S;intro a S
       refine d_pure 10 S hsel rfl rfl (by kernel_rfl) (by kernel_rfl) rfl (fun _ => (Rm (S.tm rfl))) ?_;clear S;intro a S
       refine d_pure 11 S hsel rfl rfl (by kernel_rfl) (by kernel_rfl) rfl (fun _ => (rn_nilCheck (S.tm rfl))) ?_;clear S;intro a S
       refine d_pure 12 S hsel rfl rfl (by kernel_rfl) (by kernel_rfl) rfl (fun _ => (rn_fld fa_38_1 (S.tm rfl))) ?_;clear S;intro a S
       refine d_quiet 13 S hsel rfl (by kernel_rfl) (by kernel_rfl) (by kernel_rfl) (by kernel_rfl) rfl (fun _ hw => (rn_ld Tryz.isAgg9 (off := r6.1.toNat * 5) (o := 1) (S.tm rfl) ((own_mem GScored.enc_ok S (i := 0) rfl hg1 (inB_get hc2).1 (ne_fp (i := 1) (j := 0) (e := .blk O [U, iV r7.2] 25) (e' := .own v3 38 5 x2.length (x2.flatMap GScored.enc)) S rfl rfl rfl)).kept hw) rfl)) ?_;clear S;intro a S
       refine d_loud2 7 14 (by kernel_rfl) rfl rfl ?_ ?_
       ·refine l_buildSlice S Tryz.underlying59 Tryz.sizeOf9 Tryz.zeroValue9 rfl rfl (pv := [(0, sV ((nth x2 r6.1).Race)), (1, sV k_empty), (2, sV k_ra)]) ⟨rfl, (S.tm rfl), rfl, rfl, rfl, rfl, trivial⟩ (cs := [sV ((nth x2 r6.1).Race), sV k_empty, sV k_ra]) (by kernel_rfl) rfl ?_;clear S;intro a w28 b6 hz6 hk20 S
        refine Ld (d_next (Keep.none hk20) (d_loud2 8 14 (by kernel_rfl) rfl rfl ?_ ?_))
        ·refine l_enter1 2 S (b := O) rfl rfl (fun _ => .blk O [U, iV r8.2] 25) (fun _ => run_call (vs := [.pointer (some ⟨O, 0, none⟩), .slice (some ⟨b6, 0, none⟩) 3 3]) ⟨(S.tm rfl), (S.tm rfl), trivial⟩ Tryz.call16) (Stream_Some_ok _ O U Ae (Ag.mono (S.le_arg (fp_sub (i := 2) (e := .blk O [U, iV r7.2] 25) rfl))) r7.2 (S.holds _ (List.mem_of_getElem? (i := 2) rfl)) (.slice (some ⟨b6, 0, none⟩) 3 3) [(nth x2 r6.1).Race, k_empty, k_ra] (lit_slcT enc_str S (i := 0) rfl rfl rfl rfl ((ne_fp (i := 2) (j := 0) (e := .blk O [U, iV r7.2] 25) (e' := .blk b6 [sV ((nth x2 r6.1).Race), sV k_empty, sV k_ra] 9) S rfl rfl rfl) _ rfl)) _ hr9) rfl (fun _ _ _ h => ⟨h.1, fun _ hc => by cases hc;rfl⟩) ?_;clear S;intro v13 a w29 hv10 hk21 hn10 S
         replace hv10 := hv10.2
         subst hv10
         refine Ld (d_next hk21 (d_loud1 14 (by kernel_rfl) rfl (l_buildSlice S Tryz.underlying59 Tryz.sizeOf9 Tryz.zeroValue9 rfl rfl (pv := [(0, sV ((nth x2 r6.1).Who)), (1, sV k_A), (2, sV k_ann)]) ⟨rfl, (S.tm rfl), rfl, rfl, rfl, rfl, trivial⟩ (cs := [sV ((nth x2 r6.1).Who), sV k_A, sV k_ann]) (by kernel_rfl) rfl ?_)));clear S;intro a w30 b7 hz7 hk22 S
         refine Ld (d_next (Keep.none hk22) (d_loud1 15 (by kernel_rfl) rfl ?_))
         refine l_enter1 3 S (b := O) rfl rfl (fun _ => .blk O [U, iV r9.2] 25) (fun _ => run_call (vs := [.pointer (some ⟨O, 0, none⟩), .slice (some ⟨b7, 0, none⟩) 3 3]) ⟨(S.tm rfl), (S.tm rfl), trivial⟩ Tryz.call16) (Stream_Some_ok _ O U Ae (Ag.mono (S.le_arg (fp_sub (i := 3) (e := .blk O [U, iV r8.2] 25) rfl))) r8.2 (S.holds _ (List.mem_of_getElem? (i := 3) rfl)) (.slice (some ⟨b7, 0, none⟩) 3 3) [(nth x2 r6.1).Who, k_A, k_ann] (lit_slcT enc_str S (i := 0) rfl rfl rfl rfl ((ne_fp (i := 3) (j := 0) (e := .blk O [U, iV r8.2] 25) (e' := .blk b7 [sV ((nth x2 r6.1).Who), sV k_A, sV k_ann] 9) S rfl rfl rfl) _ rfl)) _ hr10) rfl (fun _ _ _ h => ⟨h.1, fun _ hc => by cases hc;rfl⟩) ?_;clear S;intro v14 a w31 hv11 hk23 hn11 S
         replace hv11 := hv11.2
         subst hv11
         refine Ld (d_next hk23 (d_pure 16 S hsel rfl rfl (by kernel_rfl) (by kernel_rfl) rfl (fun _ => (rn_nilCheck (S.tm rfl))) ?_));clear S;intro a S
         refine d_pure 17 S hsel rfl rfl (by kernel_rfl) (by kernel_rfl) rfl (fun _ => (rn_fld fa_38_0 (S.tm rfl))) ?_;clear S;intro a S
         refine d_loudB 18 ([O] ++ v3.ownBlock.toList) rfl (by kernel_rfl) rfl (l_storeO (c := 0) (j := r6.1.toNat) (GScored.mk r8.1 ((nth x2 r6.1).Who) ((nth x2 r6.1).Club) ((nth x2 r6.1).Rank) ((nth x2 r6.1).Relay)) GScored.enc_ok S (S.tm rfl) (S.tm rfl) (i := 2) rfl hg1 (inB_get hc2).1 Tryz.sizeOf9 (vs := [sV r8.1]) rfl rfl rfl rfl rfl ?_);clear S;intro w33 hk25 S
         refine Ld (d_nextB (d_quiet 19 S hsel rfl rfl rfl (by kernel_rfl) (by kernel_rfl) rfl (fun _ hw => (rn_nilCheck (S.tm rfl))) ?_));clear S;intro a S
         refine d_quiet 20 S hsel rfl rfl rfl (by kernel_rfl) (by kernel_rfl) rfl (fun _ hw => (rn_fld fa_38_1 (S.tm rfl))) ?_;clear S;intro a S
         refine d_loud1 21 (by kernel_rfl) rfl (l_storeO (c := 1) (j := r6.1.toNat) (GScored.mk r8.1 r9.1 ((nth x2 r6.1).Club) ((nth x2 r6.1).Rank) ((nth x2 r6.1).Relay)) GScored.enc_ok S (S.tm rfl) (S.tm rfl) (i := 2) rfl hg1 (get_set (inB_get hc2).1) Tryz.sizeOf9 (vs := [sV r9.1]) rfl rfl rfl rfl rfl ?_);clear S;intro w35 hk27 S
         refine Ld ?_
         refine d_next (hk27.sub (by intro y hy;simp at hy ⊢;simp [hy])) ?_
         refine d_end (by kernel_rfl) ?_
         clear hsel
         replace S := S.nk [.own v3 38 5 ((x2.set r6.1.toNat (GScored.mk r8.1 ((nth x2 r6.1).Who) ((nth x2 r6.1).Club) ((nth x2 r6.1).Rank) ((nth x2 r6.1).Relay))).set r6.1.toNat (GScored.mk r8.1 r9.1 ((nth x2 r6.1).Club) ((nth x2 r6.1).Rank) ((nth x2 r6.1).Relay))).length (((x2.set r6.1.toNat (GScored.mk r8.1 ((nth x2 r6.1).Who) ((nth x2 r6.1).Club) ((nth x2 r6.1).Rank) ((nth x2 r6.1).Relay))).set r6.1.toNat (GScored.mk r8.1 r9.1 ((nth x2 r6.1).Club) ((nth x2 r6.1).Rank) ((nth x2 r6.1).Relay))).flatMap GScored.enc), .blk O [U, iV r9.2] 25] [(3, v3)] [false, false, true, true] rfl ⟨rfl, trivial⟩
         refine Tn ?_
         exact ⟨((x2.set r6.1.toNat (GScored.mk r8.1 ((nth x2 r6.1).Who) ((nth x2 r6.1).Club) ((nth x2 r6.1).Rank) ((nth x2 r6.1).Relay))).set r6.1.toNat (GScored.mk r8.1 r9.1 ((nth x2 r6.1).Club) ((nth x2 r6.1).Rank) ((nth x2 r6.1).Relay))), r9.2, h, S.nf [true, true] rfl ⟨rfl, trivial⟩⟩
        ·refine l_buildSlice S Tryz.underlying59 Tryz.sizeOf9 Tryz.zeroValue9 rfl rfl (pv := [(0, sV ((nth x2 r6.1).Who)), (1, sV k_A), (2, sV k_ann)]) ⟨rfl, (S.tm rfl), rfl, rfl, rfl, rfl, trivial⟩ (cs := [sV ((nth x2 r6.1).Who), sV k_A, sV k_ann]) (by kernel_rfl) rfl ?_;clear S;intro a w36 b8 hz8 hk28 S
         refine Ld (d_next (Keep.none hk28) (d_loud1 8 (by kernel_rfl) rfl ?_))
         refine l_enter1 3 S (b := O) rfl rfl (fun _ => .blk O [U, iV r8.2] 25) (fun _ => run_call (vs := [.pointer (some ⟨O, 0, none⟩), .slice (some ⟨b6, 0, none⟩) 3 3]) ⟨(S.tm rfl), (S.tm rfl), trivial⟩ Tryz.call16) (Stream_Some_ok _ O U Ae (Ag.mono (S.le_arg (fp_sub (i := 3) (e := .blk O [U, iV r7.2] 25) rfl))) r7.2 (S.holds _ (List.mem_of_getElem? (i := 3) rfl)) (.slice (some ⟨b6, 0, none⟩) 3 3) [(nth x2 r6.1).Race, k_empty, k_ra] (lit_slcT enc_str S (i := 1) rfl rfl rfl rfl ((ne_fp (i := 3) (j := 1) (e := .blk O [U, iV r7.2] 25) (e' := .blk b6 [sV ((nth x2 r6.1).Race), sV k_empty, sV k_ra] 9) S rfl rfl rfl) _ rfl)) _ hr9) rfl (fun _ _ _ h => ⟨h.1, fun _ hc => by cases hc;rfl⟩) ?_;clear S;intro v15 a w37 hv12 hk29 hn12 S
         replace hv12 := hv12.2
         subst hv12
         refine Ld (d_next hk29 (d_loud1 15 (by kernel_rfl) rfl ?_))
         refine l_enter1 3 S (b := O) rfl rfl (fun _ => .blk O [U, iV r9.2] 25) (fun _ => run_call (vs := [.pointer (some ⟨O, 0, none⟩), .slice (some ⟨b8, 0, none⟩) 3 3]) ⟨(S.tm rfl), (S.tm rfl), trivial⟩ Tryz.call16) (Stream_Some_ok _ O U Ae (Ag.mono (S.le_arg (fp_sub (i := 3) (e := .blk O [U, iV r8.2] 25) rfl))) r8.2 (S.holds _ (List.mem_of_getElem? (i := 3) rfl)) (.slice (some ⟨b8, 0, none⟩) 3 3) [(nth x2 r6.1).Who, k_A, k_ann] (lit_slcT enc_str S (i := 0) rfl rfl rfl rfl ((ne_fp (i := 3) (j := 0) (e := .blk O [U, iV r8.2] 25) (e' := .blk b8 [sV ((nth x2 r6.1).Who), sV k_A, sV k_ann] 9) S rfl rfl rfl) _ rfl)) _ hr10) rfl (fun _ _ _ h => ⟨h.1, fun _ hc => by cases hc;rfl⟩) ?_;clear S;intro v16 a w38 hv13 hk30 hn13 S
         replace hv13 := hv13.2
         subst hv13
         refine Ld (d_next hk30 (d_pure 16 S hsel rfl rfl (by kernel_rfl) (by kernel_rfl) rfl (fun _ => (rn_nilCheck (S.tm rfl))) ?_));clear S;intro a S
         refine d_pure 17 S hsel rfl rfl (by kernel_rfl) (by kernel_rfl) rfl (fun _ => (rn_fld fa_38_0 (S.tm rfl))) ?_;clear S;intro a S
         refine d_loudB 18 ([O] ++ v3.ownBlock.toList) rfl (by kernel_rfl) rfl (l_storeO (c := 0) (j := r6.1.toNat) (GScored.mk r8.1 ((nth x2 r6.1).Who) ((nth x2 r6.1).Club) ((nth x2 r6.1).Rank) ((nth x2 r6.1).Relay)) GScored.enc_ok S (S.tm rfl) (S.tm rfl) (i := 2) rfl hg1 (inB_get hc2).1 Tryz.sizeOf9 (vs := [sV r8.1]) rfl rfl rfl rfl rfl ?_);clear S;intro w40 hk32 S
         refine Ld (d_nextB (d_quiet 19 S hsel rfl rfl rfl (by kernel_rfl) (by kernel_rfl) rfl (fun _ hw => (rn_nilCheck (S.tm rfl))) ?_));clear S;intro a S
         refine d_quiet 20 S hsel rfl rfl rfl (by kernel_rfl) (by kernel_rfl) rfl (fun _ hw => (rn_fld fa_38_1 (S.tm rfl))) ?_;clear S;intro a S
         refine d_loud1 21 (by kernel_rfl) rfl (l_storeO (c := 1) (j := r6.1.toNat) (GScored.mk r8.1 r9.1 ((nth x2 r6.1).Club) ((nth x2 r6.1).Rank) ((nth x2 r6.1).Relay)) GScored.enc_ok S (S.tm rfl) (S.tm rfl) (i := 2) rfl hg1 (get_set (inB_get hc2).1) Tryz.sizeOf9 (vs := [sV r9.1]) rfl rfl rfl rfl rfl ?_);clear S;intro w42 hk34 S
         refine Ld ?_
         refine d_next (hk34.sub (by intro y hy;simp at hy ⊢;simp [hy])) ?_
         refine d_end (by kernel_rfl) ?_
         clear hsel
         replace S := S.nk [.own v3 38 5 ((x2.set r6.1.toNat (GScored.mk r8.1 ((nth x2 r6.1).Who) ((nth x2 r6.1).Club) ((nth x2 r6.1).Rank) ((nth x2 r6.1).Relay))).set r6.1.toNat (GScored.mk r8.1 r9.1 ((nth x2 r6.1).Club) ((nth x2 r6.1).Rank) ((nth x2 r6.1).Relay))).length (((x2.set r6.1.toNat (GScored.mk r8.1 ((nth x2 r6.1).Who) ((nth x2 r6.1).Club) ((nth x2 r6.1).Rank) ((nth x2 r6.1).Relay))).set r6.1.toNat (GScored.mk r8.1 r9.1 ((nth x2 r6.1).Club) ((nth x2 r6.1).Rank) ((nth x2 r6.1).Relay))).flatMap GScored.enc), .blk O [U, iV r9.2] 25] [(3, v3)] [false, false, true, true] rfl ⟨rfl, trivial⟩
         refine Tn ?_
         exact ⟨((x2.set r6.1.toNat (GScored.mk r8.1 ((nth x2 r6.1).Who) ((nth x2 r6.1).Club) ((nth x2 r6.1).Rank) ((nth x2 r6.1).Relay))).set r6.1.toNat (GScored.mk r8.1 r9.1 ((nth x2 r6.1).Club) ((nth x2 r6.1).Rank) ((nth x2 r6.1).Relay))), r9.2, h, S.nf [true, true] rfl ⟨rfl, trivial⟩⟩
       ·refine l_buildSlice S Tryz.underlying59 Tryz.sizeOf9 Tryz.zeroValue9 rfl rfl (pv := [(0, sV ((nth x2 r6.1).Who)), (1, sV k_A), (2, sV k_ann)]) ⟨rfl, (S.tm rfl), rfl, rfl, rfl, rfl, trivial⟩ (cs := [sV ((nth x2 r6.1).Who), sV k_A, sV k_ann]) (by kernel_rfl) rfl ?_;clear S;intro a w43 b9 hz9 hk35 S
        refine Ld (d_next (Keep.none hk35) (d_loud1 7 (by kernel_rfl) rfl (l_buildSlice S Tryz.underlying59 Tryz.sizeOf9 Tryz.zeroValue9 rfl rfl (pv := [(0, sV ((nth x2 r6.1).Race)), (1, sV k_empty), (2, sV k_ra)]) ⟨rfl, (S.tm rfl), rfl, rfl, rfl, rfl, trivial⟩ (cs := [sV ((nth x2 r6.1).Race), sV k_empty, sV k_ra]) (by kernel_rfl) rfl ?_)));clear S;intro a w44 b10 hz10 hk36 S
        refine Ld (d_next (Keep.none hk36) (d_loud1 8 (by kernel_rfl) rfl ?_))
        refine l_enter1 3 S (b := O) rfl rfl (fun _ => .blk O [U, iV r8.2] 25) (fun _ => run_call (vs := [.pointer (some ⟨O, 0, none⟩), .slice (some ⟨b10, 0, none⟩) 3 3]) ⟨(S.tm rfl), (S.tm rfl), trivial⟩ Tryz.call16) (Stream_Some_ok _ O U Ae (Ag.mono (S.le_arg (fp_sub (i := 3) (e := .blk O [U, iV r7.2] 25) rfl))) r7.2 (S.holds _ (List.mem_of_getElem? (i := 3) rfl)) (.slice (some ⟨b10, 0, none⟩) 3 3) [(nth x2 r6.1).Race, k_empty, k_ra] (lit_slcT enc_str S (i := 0) rfl rfl rfl rfl ((ne_fp (i := 3) (j := 0) (e := .blk O [U, iV r7.2] 25) (e' := .blk b10 [sV ((nth x2 r6.1).Race), sV k_empty, sV k_ra] 9) S rfl rfl rfl) _ rfl)) _ hr9) rfl (fun _ _ _ h => ⟨h.1, fun _ hc => by cases hc;rfl⟩) ?_;clear S;intro v17 a w45 hv14 hk37 hn14 S
        replace hv14 := hv14.2
        subst hv14
        refine Ld (d_next hk37 (d_loud1 15 (by kernel_rfl) rfl ?_))
        refine l_enter1 3 S (b := O) rfl rfl (fun _ => .blk O [U, iV r9.2] 25) (fun _ => run_call (vs := [.pointer (some ⟨O, 0, none⟩), .slice (some ⟨b9, 0, none⟩) 3 3]) ⟨(S.tm rfl), (S.tm rfl), trivial⟩ Tryz.call16) (Stream_Some_ok _ O U Ae (Ag.mono (S.le_arg (fp_sub (i := 3) (e := .blk O [U, iV r8.2] 25) rfl))) r8.2 (S.holds _ (List.mem_of_getElem? (i := 3) rfl)) (.slice (some ⟨b9, 0, none⟩) 3 3) [(nth x2 r6.1).Who, k_A, k_ann] (lit_slcT enc_str S (i := 1) rfl rfl rfl rfl ((ne_fp (i := 3) (j := 1) (e := .blk O [U, iV r8.2] 25) (e' := .blk b9 [sV ((nth x2 r6.1).Who), sV k_A, sV k_ann] 9) S rfl rfl rfl) _ rfl)) _ hr10) rfl (fun _ _ _ h => ⟨h.1, fun _ hc => by cases hc;rfl⟩) ?_;clear S;intro v18 a w46 hv15 hk38 hn15 S
        replace hv15 := hv15.2
        subst hv15
        refine Ld (d_next hk38 (d_pure 16 S hsel rfl rfl (by kernel_rfl) (by kernel_rfl) rfl (fun _ => (rn_nilCheck (S.tm rfl))) ?_));clear S;intro a S
        refine d_pure 17 S hsel rfl rfl (by kernel_rfl) (by kernel_rfl) rfl (fun _ => (rn_fld fa_38_0 (S.tm rfl))) ?_;clear S;intro a S
        refine d_loudB 18 ([O] ++ v3.ownBlock.toList) rfl (by kernel_rfl) rfl (l_storeO (c := 0) (j := r6.1.toNat) (GScored.mk r8.1 ((nth x2 r6.1).Who) ((nth x2 r6.1).Club) ((nth x2 r6.1).Rank) ((nth x2 r6.1).Relay)) GScored.enc_ok S (S.tm rfl) (S.tm rfl) (i := 2) rfl hg1 (inB_get hc2).1 Tryz.sizeOf9 (vs := [sV r8.1]) rfl rfl rfl rfl rfl ?_);clear S;intro w48 hk40 S
        refine Ld (d_nextB (d_quiet 19 S hsel rfl rfl rfl (by kernel_rfl) (by kernel_rfl) rfl (fun _ hw => (rn_nilCheck (S.tm rfl))) ?_));clear S;intro a S
        refine d_quiet 20 S hsel rfl rfl rfl (by kernel_rfl) (by kernel_rfl) rfl (fun _ hw => (rn_fld fa_38_1 (S.tm rfl))) ?_;clear S;intro a S
        refine d_loud1 21 (by kernel_rfl) rfl (l_storeO (c := 1) (j := r6.1.toNat) (GScored.mk r8.1 r9.1 ((nth x2 r6.1).Club) ((nth x2 r6.1).Rank) ((nth x2 r6.1).Relay)) GScored.enc_ok S (S.tm rfl) (S.tm rfl) (i := 2) rfl hg1 (get_set (inB_get hc2).1) Tryz.sizeOf9 (vs := [sV r9.1]) rfl rfl rfl rfl rfl ?_);clear S;intro w50 hk42 S
        refine Ld ?_
        refine d_next (hk42.sub (by intro y hy;simp at hy ⊢;simp [hy])) ?_
        refine d_end (by kernel_rfl) ?_
        clear hsel
        replace S := S.nk [.own v3 38 5 ((x2.set r6.1.toNat (GScored.mk r8.1 ((nth x2 r6.1).Who) ((nth x2 r6.1).Club) ((nth x2 r6.1).Rank) ((nth x2 r6.1).Relay))).set r6.1.toNat (GScored.mk r8.1 r9.1 ((nth x2 r6.1).Club) ((nth x2 r6.1).Rank) ((nth x2 r6.1).Relay))).length (((x2.set r6.1.toNat (GScored.mk r8.1 ((nth x2 r6.1).Who) ((nth x2 r6.1).Club) ((nth x2 r6.1).Rank) ((nth x2 r6.1).Relay))).set r6.1.toNat (GScored.mk r8.1 r9.1 ((nth x2 r6.1).Club) ((nth x2 r6.1).Rank) ((nth x2 r6.1).Relay))).flatMap GScored.enc), .blk O [U, iV r9.2] 25] [(3, v3)] [false, false, true, true] rfl ⟨rfl, trivial⟩
        refine Tn ?_
        exact ⟨((x2.set r6.1.toNat (GScored.mk r8.1 ((nth x2 r6.1).Who) ((nth x2 r6.1).Club) ((nth x2 r6.1).Rank) ((nth x2 r6.1).Relay))).set r6.1.toNat (GScored.mk r8.1 r9.1 ((nth x2 r6.1).Club) ((nth x2 r6.1).Rank) ((nth x2 r6.1).Relay))), r9.2, h, S.nf [true, true] rfl ⟨rfl, trivial⟩⟩
      clear S h;rintro a w18 ⟨x14, x15, h, S⟩;rw [hj7] at h;clear hj7 j7
      refine Tn ?_
      exact ⟨x14, x15, h, S.nf [true, true] rfl ⟨rfl, trivial⟩⟩
     ·replace h := iteF h hb5
      refine Fs (Fg (lv S (rn_eql (S.tm rfl) rfl) rfl ?_));clear S;intro a S
      refine lv S (Ra (S.tm rfl)) rfl ?_;clear S;intro a S
      refine Ld ?_
      replace S := S.nk [.own v3 38 5 x2.length (x2.flatMap GScored.enc), .blk O [U, iV r7.2] 25] [(0, .pointer (some ⟨O, 0, none⟩)), (3, v3), (5, .pointer (some ⟨b3, r6.1.toNat * 5, none⟩)), (41, iV r7.1), (72, bV (decide (r7.1 = 1)))] [true, true] rfl (subR rfl)
      refine Tn ?_
      obtain ⟨j8, hj8, h⟩ := joinE h
      refine f_join (fun a w' => ∃ x16 : List GScored, ∃ x17 : Int, j8 x16 x17 = some r ∧ Sx w [O] nov [.own v3 38 5 x16.length (x16.flatMap GScored.enc), .blk O [U, iV x17] 25] [(3, v3)] 88 a w') ?_ ?_
      ·refine f_cond (S.tm rfl) (fun hb6 => ?_) (fun hb6 => ?_)
       ·replace h := iteT h hb6
        refine Fg (lv S (Rm (S.tm rfl)) rfl ?_);clear S;intro a S
        refine lv S (Rm (S.tm rfl)) rfl ?_;clear S;intro a S
        refine l_buildSlice S Tryz.underlying59 Tryz.sizeOf9 Tryz.zeroValue9 rfl rfl (pv := [(0, sV k_blue), (1, sV k_A)]) ⟨rfl, rfl, rfl, rfl, trivial⟩ (cs := [sV k_blue, sV k_A]) (by kernel_rfl) rfl ?_;clear S;intro a w52 b11 hz11 hk43 S
        obtain ⟨r10, hr11, h⟩ := bindE h
        refine l_enter1 2 S (b := O) rfl rfl (fun _ => .blk O [U, iV r10.2] 25) (fun _ => run_call (vs := [.pointer (some ⟨O, 0, none⟩), .slice (some ⟨b11, 0, none⟩) 2 2]) ⟨(S.tm rfl), (S.tm rfl), trivial⟩ Tryz.call16) (Stream_Some_ok _ O U Ae (Ag.mono (S.le_arg (fp_sub (i := 2) (e := .blk O [U, iV r7.2] 25) rfl))) r7.2 (S.holds _ (List.mem_of_getElem? (i := 2) rfl)) (.slice (some ⟨b11, 0, none⟩) 2 2) [k_blue, k_A] (lit_slcT enc_str S (i := 0) rfl rfl rfl rfl ((ne_fp (i := 2) (j := 0) (e := .blk O [U, iV r7.2] 25) (e' := .blk b11 [sV k_blue, sV k_A] 9) S rfl rfl rfl) _ rfl)) _ hr11) rfl (fun _ _ _ h => ⟨h.1, fun _ hc => by cases hc;rfl⟩) ?_;clear S;intro v19 a w53 hv16 hk44 hn16 S
        replace hv16 := hv16.2
        subst hv16
        refine lv S (rn_nilCheck (S.tm rfl)) rfl ?_;clear S;intro a S
        refine lv S (rn_fld fa_38_2 (S.tm rfl)) rfl ?_;clear S;intro a S
        refine l_storeO (c := 2) (j := r6.1.toNat) (GScored.mk ((nth x2 r6.1).Race) ((nth x2 r6.1).Who) r10.1 ((nth x2 r6.1).Rank) ((nth x2 r6.1).Relay)) GScored.enc_ok S (S.tm rfl) (S.tm rfl) (i := 1) rfl hg1 (inB_get hc2).1 Tryz.sizeOf9 (vs := [sV r10.1]) rfl rfl rfl rfl rfl ?_;clear S;intro w55 hk46 S
        refine Ld (Tn ?_)
        exact ⟨(x2.set r6.1.toNat (GScored.mk ((nth x2 r6.1).Race) ((nth x2 r6.1).Who) r10.1 ((nth x2 r6.1).Rank) ((nth x2 r6.1).Relay))), r10.2, h, S.nf [false, true, true] rfl ⟨rfl, trivial⟩⟩
       ·replace h := iteF h hb6
        refine Fs (Fg (lv S (rn_eql (S.tm rfl) rfl) rfl ?_));clear S;intro a S
        refine lv S (Ra (S.tm rfl)) rfl ?_;clear S;intro a S
        refine Ld (Tn ?_)
        obtain ⟨j9, hj9, h⟩ := joinE h
        refine f_join (fun a w' => ∃ x18 : List GScored, ∃ x19 : Int, j9 x18 x19 = some r ∧ Sx w [O] nov [.own v3 38 5 x18.length (x18.flatMap GScored.enc), .blk O [U, iV x19] 25] [(3, v3)] 88 a w') ?_ ?_
        ·refine f_cond (S.tm rfl) (fun hb7 => ?_) (fun hb7 => ?_)
         ·replace h := iteT h hb7
          refine Fg (lv S (Rm (S.tm rfl)) rfl ?_);clear S;intro a S
          refine lv S (Rm (S.tm rfl)) rfl ?_;clear S;intro a S
          obtain ⟨r11, hr12, h⟩ := bindE h
          refine l_enter1 1 S (b := O) rfl rfl (fun _ => .blk O [U, iV r11.2] 25) (fun _ => run_call (vs := [.pointer (some ⟨O, 0, none⟩), iV 0, iV 5]) ⟨(S.tm rfl), rfl, rfl, trivial⟩ Tryz.call18) (Stream_Odd_ok _ O U Ae (Ag.mono (S.le_arg (fp_sub (i := 1) (e := .blk O [U, iV r7.2] 25) rfl))) r7.2 (S.holds _ (List.mem_of_getElem? (i := 1) rfl)) 0 5 _ hr12) rfl (fun _ _ _ h => ⟨h.1, fun _ hc => by cases hc;rfl⟩) ?_;clear S;intro v20 a w57 hv17 hk47 hn17 S
          replace hv17 := hv17.2
          subst hv17
          refine lv S (rn_nilCheck (S.tm rfl)) rfl ?_;clear S;intro a S
          refine lv S (rn_fld fa_38_3 (S.tm rfl)) rfl ?_;clear S;intro a S
          refine l_storeO (c := 3) (j := r6.1.toNat) (GScored.mk ((nth x2 r6.1).Race) ((nth x2 r6.1).Who) ((nth x2 r6.1).Club) r11.1 ((nth x2 r6.1).Relay)) GScored.enc_ok S (S.tm rfl) (S.tm rfl) (i := 0) rfl hg1 (inB_get hc2).1 Tryz.sizeOf3 (vs := [iV r11.1]) rfl rfl rfl rfl rfl ?_;clear S;intro w59 hk49 S
          refine Ld (Tn ?_)
          exact ⟨(x2.set r6.1.toNat (GScored.mk ((nth x2 r6.1).Race) ((nth x2 r6.1).Who) ((nth x2 r6.1).Club) r11.1 ((nth x2 r6.1).Relay))), r11.2, h, S.nf [true, true] rfl ⟨rfl, trivial⟩⟩
         ·replace h := iteF h hb7
          refine Fg (lv S (Rm (S.tm rfl)) rfl ?_);clear S;intro a S
          refine lv S (Rm (S.tm rfl)) rfl ?_;clear S;intro a S
          refine lv S (rn_nilCheck (S.tm rfl)) rfl ?_;clear S;intro a S
          refine lv S (rn_fld fa_38_4 (S.tm rfl)) rfl ?_;clear S;intro a S
          refine lv S (rn_ld Tryz.isAgg4 (off := r6.1.toNat * 5) (o := 4) (S.tm rfl) (own_cells GScored.enc_ok S (i := 0) rfl hg1 (inB_get hc2).1) rfl) rfl ?_;clear S;intro a S
          refine lv S (rn_not (S.tm rfl)) rfl ?_;clear S;intro a S
          refine lv S (rn_nilCheck (S.tm rfl)) rfl ?_;clear S;intro a S
          refine lv S (rn_fld fa_38_4 (S.tm rfl)) rfl ?_;clear S;intro a S
          refine l_storeO (c := 4) (j := r6.1.toNat) (GScored.mk ((nth x2 r6.1).Race) ((nth x2 r6.1).Who) ((nth x2 r6.1).Club) ((nth x2 r6.1).Rank) (!((nth x2 r6.1).Relay))) GScored.enc_ok S (S.tm rfl) (S.tm rfl) (i := 0) rfl hg1 (inB_get hc2).1 Tryz.sizeOf4 (vs := [bV (!((nth x2 r6.1).Relay))]) rfl rfl rfl rfl rfl ?_;clear S;intro w61 hk51 S
          refine Ld ?_
          replace S := S.nk [.own v3 38 5 (x2.set r6.1.toNat (GScored.mk ((nth x2 r6.1).Race) ((nth x2 r6.1).Who) ((nth x2 r6.1).Club) ((nth x2 r6.1).Rank) (!((nth x2 r6.1).Relay)))).length ((x2.set r6.1.toNat (GScored.mk ((nth x2 r6.1).Race) ((nth x2 r6.1).Who) ((nth x2 r6.1).Club) ((nth x2 r6.1).Rank) (!((nth x2 r6.1).Relay)))).flatMap GScored.enc), .blk O [U, iV r7.2] 25] [(3, v3)] [true, true] rfl ⟨rfl, trivial⟩
          refine Tn ?_
          exact ⟨(x2.set r6.1.toNat (GScored.mk ((nth x2 r6.1).Race) ((nth x2 r6.1).Who) ((nth x2 r6.1).Club) ((nth x2 r6.1).Rank) (!((nth x2 r6.1).Relay)))), r7.2, h, S.nf [true, true] rfl ⟨rfl, trivial⟩⟩
        clear S h;rintro a w56 ⟨x18, x19, h, S⟩;rw [hj9] at h;clear hj9 j9
        refine Tn ?_
        exact ⟨x18, x19, h, S.nf [true, true] rfl ⟨rfl, trivial⟩⟩
      clear S h;rintro a w51 ⟨x16, x17, h, S⟩;rw [hj8] at h;clear hj8 j8
      refine Tn ?_
      exact ⟨x16, x17, h, S.nf [true, true] rfl ⟨rfl, trivial⟩⟩
    clear S h;rintro a w17 ⟨x12, x13, h, S⟩;rw [hj6] at h;clear hj6 j6
    refine blk_n (Tn ?_)
    exact ⟨x12, x13, h, S.nf [true, true] rfl ⟨rfl, trivial⟩⟩
   clear S h;rintro a w16 ⟨x10, x11, h, S⟩;rw [hj5] at h;clear hj5 j5
   refine Tn ?_
   exact ⟨x10, x11, h, S.nf [true, true] rfl ⟨rfl, trivial⟩⟩
  ·replace h := iteF h hb4
   refine wp_skip (Tn ?_)
   exact ⟨x2, x6, h, S.nf [true, true] rfl ⟨rfl, trivial⟩⟩
 clear S h;rintro a w13 ⟨x8, x9, h, S⟩;rw [hj4] at h;clear hj4 j4
 refine Tn (Fs (Fg (lv S (Rm (S.tm rfl)) rfl ?_)));clear S;intro a S
 refine lv S (Ra (S.tm rfl)) rfl ?_;clear S;intro a S
 refine Ld (Tn (wp_ret ?_))
 obtain rfl := Option.some.inj h
 exact f_ret S Tryz.results4 rfl ⟨(S.holds _ (List.mem_of_getElem? (i := 1) rfl)), (own_retX S (i := 0) rfl (fun c hc hh => not_fps S (i := 1) rfl rfl (j := 0) rfl rfl (by simp at hc;subst hc;exact hh)))⟩
theorem tumbref2_dash_ok (w : World) (Ac : ByteArray) (r : ByteArray) (h : tumbref2_dash Ac = r) :
    Calls Tryz.prog 31 [sV Ac].toArray w (Ret w [] fun _ v _ => v = sV r) := by
 refine f_enter [] [] Tryz.func31 rfl Tryz.ntmps31 rfl (by simp) (by simp [fps]) (by simp [fps]) fun a S => ?_
 unfold tumbref2_dash at h
 replace S := S.nk [] [(0, sV Ac)] [] rfl ⟨rfl, trivial⟩
 refine Fs (Fg (lv S (Ra rfl) rfl ?_));clear S;intro a S
 refine Ld (Tn (Fs (Fs (Fg (lv S (Rm (S.tm rfl)) rfl ?_)))));clear S;intro a S
 refine lv S (rn_seql (S.tm rfl) rfl) rfl ?_;clear S;intro a S
 refine Ld (Tn (f_cond (S.tm rfl) (fun hb1 => ?_) (fun hb1 => ?_)))
 ·replace h := iteT h hb1
  refine Fs (Fg (lv S (Ra rfl) rfl ?_));clear S;intro a S
  refine Ld (Tn (wp_ret (then_r ?_)))
  subst h
  exact f_ret S Tryz.results31 rfl rfl
 ·replace h := iteF h hb1
  refine wp_skip (Tn (Fs (Fg (lv S (Rm (S.tm rfl)) rfl ?_))));clear S;intro a S
  refine lv S (Ra (S.tm rfl)) rfl ?_;clear S;intro a S
  refine Ld (Tn (wp_ret ?_))
  subst h
  exact f_ret S Tryz.results31 rfl rfl
theorem strconv_Itoa_ok (w : World) (n : Int) (hg_pow10 : Glob (view w []) 3 pow10Cells) (r : ByteArray) (h : strconv_Itoa n = some r) : Calls Tryz.prog 25 [iV n].toArray w (Ret w [] fun _ v _ => v = .string r) := by
  unfold strconv_Itoa at h
  obtain ⟨hc, h⟩ := chkE h
  simp only [Bool.and_eq_true, decide_eq_true_eq] at hc
  obtain rfl := Option.some.inj h
  exact ret_of_grow (Any.strconv_Itoa Tryz.lays171 n hc.1 hc.2 w (hg_pow10.tab (by kernel_rfl)))
theorem strings_Join_ok (w : World) (v_xs : Value) (xs : List ByteArray) (hs_xs : Slc (view w []) 1 v_xs (xs.map eStr)) (sep : ByteArray) (r : ByteArray) (h : strings_Join xs sep = some r) : Calls Tryz.prog 23 [v_xs, sV sep].toArray w (Ret w [] fun _ v _ => v = .string r) := by
  unfold strings_Join at h
  obtain ⟨hc, h⟩ := chkE h
  simp only [Bool.and_eq_true, decide_eq_true_eq] at hc
  obtain rfl := Option.some.inj h
  exact join_ret Tryz.lays156 Tryz.bx156 v_xs xs sep w hs_xs hc.1 hc.2
set_option maxRecDepth 20000 in
theorem tumbref2_ScoredLines_ok (w : World) (V : Value) (Z : List GScored) (Af : Slc (view w []) 5 V (Z.map GScored.enc)) (hg_pow10 : Glob (view w []) 3 pow10Cells) (r : ByteArray) (h : tumbref2_ScoredLines Z = some r) :
    Calls Tryz.prog 8 [V].toArray w (Ret w [] fun _ v _ => v = sV r) := by
 refine f_enter [] [] Tryz.func8 rfl Tryz.ntmps8 rfl (by simp) (by simp [fps]) (by simp [fps]) fun a S => ?_
 unfold tumbref2_ScoredLines at h
 replace S := S.nk [] [(0, V)] [] rfl ⟨rfl, trivial⟩
 refine Fs (Fg (lv S (Ra rfl) rfl ?_));clear S;intro a S
 refine Ld (Tn (Fs (Fg (lv S (Ra rfl) rfl ?_))));clear S;intro a S
 refine Ld (Tn (Fs (Fs (Fg (lv S (Rm (S.tm rfl)) rfl ?_)))));clear S;intro a S
 refine lv S (rn_lenT sl_26 (S.tm rfl) (slc_len Af)) rfl ?_;clear S;intro a S
 refine lv S (Rm rfl) rfl ?_;clear S;intro a S
 refine Ld (Tn ?_)
 replace S := S.nk [] [(3, sV k_empty), (7, V), (8, iV (Z.length : Int)), (9, iV 0)] [] rfl (subR rfl)
 obtain ⟨j1, hj1, h⟩ := joinE h
 refine f_join (fun a w' => ∃ x1 : ByteArray, j1 x1 = some r ∧ Sx w [] nov [] [(3, sV x1)] 33 a w') ?_ ?_
 ·refine wp_block (f_loop (fun (ys1 : List GScored) a w' => ∃ i1 : Nat, ∃ x1 : ByteArray, (∃ dn, Z = dn ++ ys1 ∧ dn.length = i1) ∧ tumbref2_ScoredLines_l1 j1 ys1 i1 x1 = some r ∧ Sx w [] nov [] [(3, sV x1), (7, V), (8, iV (Z.length : Int)), (9, iV (i1 : Int))] 33 a w') List.length Z ⟨0, k_empty, ⟨[], rfl, rfl⟩, h, S.nf [] rfl (subR rfl)⟩ ?_)
  clear S h;rintro ys1 a w1 ⟨i1, x1, ⟨dn, hd1, hi1⟩, h, S⟩
  cases ys1 with
  | nil =>
   rw [tumbref2_ScoredLines_l1.eq_1] at h
   refine Fs (Fg (lv S (rn_lss (S.tm rfl) (S.tm rfl)) rfl ?_));clear S;intro a S
   refine Ld ?_
   replace S := S.nk [] [(3, sV x1), (7, V), (8, iV (Z.length : Int)), (9, iV (i1 : Int)), (10, bV (decide ((i1 : Int) < (Z.length : Int))))] [] rfl (subR rfl)
   refine Tn (Fs (wp_cond_false ((S.tm rfl).trans (congrArg Value.bool (rng_nil hd1 hi1))) (wp_exit (then_x (then_x (x_same ?_))))))
   refine Tn ?_
   exact ⟨x1, h, S.nf [] rfl ⟨rfl, trivial⟩⟩
  | cons y1 ys1 =>
   rw [tumbref2_ScoredLines_l1.eq_2] at h
   refine Fs (Fg (lv S (rn_lss (S.tm rfl) (S.tm rfl)) rfl ?_));clear S;intro a S
   refine Ld ?_
   replace S := S.nk [] [(3, sV x1), (7, V), (8, iV (Z.length : Int)), (9, iV (i1 : Int)), (10, bV (decide ((i1 : Int) < (Z.length : Int))))] [] rfl (subR rfl)
   refine Tn (Fs (wp_cond_true ((S.tm rfl).trans (congrArg Value.bool (rng_cons hd1 hi1))) (wp_skip (Tn (Fs (wp_block ?_))))))
   refine Fs (Fg ?_)
   obtain ⟨b1, o1, hm1, hr1⟩ := rn_indexT (a := a) (x := .tmp 7) (y := .tmp 9) (ty := 0) sl_26 Af (get_mid hd1 hi1) rfl (S.tm rfl) (S.tm rfl)
   refine lv S (hr1 _) rfl ?_;clear S;intro a S
   clear hr1
   refine lv S (rn_ldA Tryz.isAgg38 Tryz.sizeOf38 (off := o1) (o := 0) (part := (GScored.enc y1)) rfl rfl (S.tm rfl) (hm1.at S.emb0)) rfl ?_;clear S;intro a S
   refine l_alloc S Tryz.zeroValue38 (cs := [sV k_empty, sV k_empty, sV k_empty, iV 0, bV false]) rfl rfl ?_;clear S;intro a w3 b2 hz1 hk1 S
   refine l_store S (S.tm rfl) (S.tm rfl) (i := 0) (off := 0) rfl Tryz.sizeOf38 (vs := (GScored.enc y1)) rfl rfl rfl rfl ?_;clear S;intro w4 hk2 S
   refine Ld (Tn (Fs (Fg (lv S (Ra rfl) rfl ?_))));clear S;intro a S
   refine Ld (Tn (Fs (Fs (Fg (lv S (rn_fld fa_38_4 (S.tm rfl)) rfl ?_)))));clear S;intro a S
   refine lv S (rn_load Tryz.isAgg4 (S.tm rfl) (S.cell (i := 0) rfl rfl)) rfl ?_;clear S;intro a S
   refine Ld (Tn ?_)
   obtain ⟨j2, hj2, h⟩ := joinE h
   refine f_join (fun a w' => ∃ x2 : ByteArray, j2 x2 = some r ∧ Sx w [] nov [.blk b2 (GScored.enc y1) 38] [(3, sV x1), (5, .pointer (some ⟨b2, 0, none⟩)), (6, sV x2), (7, V), (8, iV (Z.length : Int)), (9, iV (i1 : Int))] 33 a w') ?_ ?_
   ·refine f_cond (S.tm rfl) (fun hb1 => ?_) (fun hb1 => ?_)
    ·replace h := iteT h hb1
     refine Fg (lv S (Ra rfl) rfl ?_);clear S;intro a S
     refine Ld (Tn ?_)
     exact ⟨k_r, h, S.nf [true] rfl (subR rfl)⟩
    ·replace h := iteF h hb1
     refine wp_skip (Tn ?_)
     exact ⟨k_s, h, S.nf [true] rfl (subR rfl)⟩
   clear S h;rintro a w5 ⟨x2, h, S⟩;rw [hj2] at h;clear hj2 j2
   refine Tn ?_
   obtain ⟨r1, hr2, h⟩ := bindE h
   obtain ⟨r2, hr3, h⟩ := bindE h
   refine d_region [] ([]) Tryz.mixed S rfl (by kernel_rfl) ?_;clear S;intro w10 hk7 hsel S
   refine d_quiet 0 S hsel rfl rfl rfl (by kernel_rfl) (by kernel_rfl) rfl (fun _ hw => (Rm (S.tm rfl))) ?_;clear S;intro a S
   refine d_quiet 1 S hsel rfl rfl rfl (by kernel_rfl) (by kernel_rfl) rfl (fun _ hw => (rn_fld fa_38_0 (S.tm rfl))) ?_;clear S;intro a S
   refine d_quiet 2 S hsel rfl rfl rfl (by kernel_rfl) (by kernel_rfl) rfl (fun _ hw => (rn_ld Tryz.isAgg9 (off := 0) (o := 0) (S.tm rfl) ((S.blk_mem (i := 0) (cells := (GScored.enc y1)) (b := b2) (T := 38) rfl (ne_nil (e' := .blk b2 (GScored.enc y1) 38))).kept hw) rfl)) ?_;clear S;intro a S
   refine d_quiet 3 S hsel rfl rfl rfl (by kernel_rfl) (by kernel_rfl) rfl (fun _ hw => (rn_fld fa_38_1 (S.tm rfl))) ?_;clear S;intro a S
   refine d_quiet 4 S hsel rfl rfl rfl (by kernel_rfl) (by kernel_rfl) rfl (fun _ hw => (rn_ld Tryz.isAgg9 (off := 0) (o := 1) (S.tm rfl) ((S.blk_mem (i := 0) (cells := (GScored.enc y1)) (b := b2) (T := 38) rfl (ne_nil (e' := .blk b2 (GScored.enc y1) 38))).kept hw) rfl)) ?_;clear S;intro a S
   refine d_quiet 5 S hsel rfl rfl rfl (by kernel_rfl) (by kernel_rfl) rfl (fun _ hw => (rn_fld fa_38_2 (S.tm rfl))) ?_;clear S;intro a S
   refine d_quiet 6 S hsel rfl rfl rfl (by kernel_rfl) (by kernel_rfl) rfl (fun _ hw => (rn_ld Tryz.isAgg9 (off := 0) (o := 2) (S.tm rfl) ((S.blk_mem (i := 0) (cells := (GScored.enc y1)) (b := b2) (T := 38) rfl (ne_nil (e' := .blk b2 (GScored.enc y1) 38))).kept hw) rfl)) ?_;clear S;intro a S
   refine d_quiet 8 S hsel rfl rfl rfl (by kernel_rfl) (by kernel_rfl) rfl (fun _ hw => (rn_fld fa_38_3 (S.tm rfl))) ?_;clear S;intro a S
   refine d_quiet 9 S hsel rfl rfl rfl (by kernel_rfl) (by kernel_rfl) rfl (fun _ hw => (rn_ld Tryz.isAgg3 (off := 0) (o := 3) (S.tm rfl) ((S.blk_mem (i := 0) (cells := (GScored.enc y1)) (b := b2) (T := 38) rfl (ne_nil (e' := .blk b2 (GScored.enc y1) 38))).kept hw) rfl)) ?_;clear S;intro a S
   refine d_quiet 11 S hsel rfl rfl rfl (by kernel_rfl) (by kernel_rfl) rfl (fun _ hw => (Rm (S.tm rfl))) ?_;clear S;intro a S
   refine d_loud1 7 (by kernel_rfl) rfl (l_enter S (fun _ => run_call (vs := [sV y1.Club]) ⟨(S.tm rfl), trivial⟩ Tryz.call31) (tumbref2_dash_ok _ y1.Club _ rfl) rfl ?_);clear S;intro v4 a w11 hv4 hk8 hn4 S
   subst hv4
   refine Ld (d_next hk8 (d_loud1 10 (by kernel_rfl) rfl (l_enter S (fun _ => run_call (vs := [iV y1.Rank]) ⟨(S.tm rfl), trivial⟩ Tryz.call25) (strconv_Itoa_ok _ y1.Rank (hg_pow10.mono (S.le_arg nil_sub)) _ hr2) rfl ?_)));clear S;intro v5 a w12 hv5 hk9 hn5 S
   subst hv5
   refine Ld (d_next hk9 (d_loud1 12 (by kernel_rfl) rfl (l_buildSlice S Tryz.underlying59 Tryz.sizeOf9 Tryz.zeroValue9 rfl rfl (pv := [(0, sV y1.Race), (1, sV y1.Who), (2, sV (tumbref2_dash y1.Club)), (3, sV r1), (4, sV x2)]) ⟨rfl, (S.tm rfl), rfl, (S.tm rfl), rfl, (S.tm rfl), rfl, (S.tm rfl), rfl, (S.tm rfl), trivial⟩ (cs := [sV y1.Race, sV y1.Who, sV (tumbref2_dash y1.Club), sV r1, sV x2]) (by kernel_rfl) rfl ?_)));clear S;intro a w13 b4 hz3 hk10 S
   refine Ld (d_next hk10 (d_loud1 13 (by kernel_rfl) rfl (l_enter S (fun _ => run_call (vs := [.slice (some ⟨b4, 0, none⟩) 5 5, sV k__20]) ⟨(S.tm rfl), rfl, trivial⟩ Tryz.call23) (strings_Join_ok _ (.slice (some ⟨b4, 0, none⟩) 5 5) [y1.Race, y1.Who, (tumbref2_dash y1.Club), r1, x2] (lit_slcT enc_str S (i := 0) rfl rfl rfl rfl ((ne_nil (e' := .blk b4 [sV y1.Race, sV y1.Who, sV (tumbref2_dash y1.Club), sV r1, sV x2] 9)) _ rfl)) k__20 _ hr3) rfl ?_)));clear S;intro v6 a w14 hv6 hk11 hn6 S
   subst hv6
   refine Ld (d_next hk11 (d_rest [14, 15, 16] hsel (by kernel_rfl) rfl ?_))
   clear hsel
   obtain ⟨hc1, h⟩ := chkE h
   refine s_lv S rfl (rn_sadd (m := r2) (n := k__0a) (S.tm rfl) rfl (by have := room_lt hc1;omega)) rfl ?_;clear S;intro a S
   obtain ⟨hc2, h⟩ := chkE h
   refine s_lv S rfl (rn_sadd (m := x1) (n := (r2 ++ k__0a)) (S.tm rfl) (S.tm rfl) (by have := room_lt hc2;omega)) rfl ?_;clear S;intro a S
   refine s_lv S rfl (Ra (S.tm rfl)) rfl ?_;clear S;intro a S
   refine s_done ?_
   replace S := S.nk [] [(3, sV (x1 ++ (r2 ++ k__0a))), (7, V), (8, iV (Z.length : Int)), (9, iV (i1 : Int))] [false, false] rfl (subR rfl)
   refine blk_n (Tn (Fg (lv S (rn_add (S.tm rfl) rfl) rfl ?_)));clear S;intro a S
   refine lv S (Rm (S.tm rfl)) rfl ?_;clear S;intro a S
   refine Ld (Tn ?_)
   exact ⟨ys1, ⟨i1 + 1, x1 ++ (r2 ++ k__0a), ⟨_, (hd1).trans (List.append_cons _ _ _), by simp [hi1]⟩, h, S.nf [] rfl ⟨rfl, rfl, rfl, (congrArg (fun z => some (Value.int .i64 z)) (rng_next hd1 hi1 (slc_max Af))), trivial⟩⟩, Nat.lt_succ_self _⟩
 clear S h;rintro a w2 ⟨x1, h, S⟩;rw [hj1] at h;clear hj1 j1
 refine Tn (Fs (Fg (lv S (Rm (S.tm rfl)) rfl ?_)));clear S;intro a S
 refine lv S (Ra (S.tm rfl)) rfl ?_;clear S;intro a S
 refine Ld (Tn (wp_ret ?_))
 obtain rfl := Option.some.inj h
 exact f_ret S Tryz.results8 rfl rfl
set_option maxRecDepth 20000 in
theorem Stream_Changed_ok (w : World) (O : Nat) (U : Value) (Ae : List Int) (Ag : Slc (view w [O]) 1 U (Ae.map eInt)) (Aa : Int) (Aw : (LEnt.blk O [U, iV Aa] 25).holds w) (Bg : ByteArray) (Bf : ByteArray) (r : ByteArray × Int) (h : Stream_Changed Ae Aa Bg Bf = some r) :
    Calls Tryz.prog 20 [.pointer (some ⟨O, 0, none⟩), sV Bg, sV Bf].toArray w (Ret w [O] fun _ v w' => (LEnt.blk O [U, iV r.2] 25).holds w' ∧ v = sV r.1) := by
 refine f_enter [O] [.blk O [U, iV Aa] 25] Tryz.func20 rfl Tryz.ntmps20 rfl (fun e he => by simp only [List.mem_singleton] at he;subst he;exact Aw) (by simp [fps, LEnt.fp]) (by simp [fps, LEnt.fp]) fun a S => ?_
 unfold Stream_Changed at h
 replace S := S.nk [.blk O [U, iV Aa] 25] [(0, .pointer (some ⟨O, 0, none⟩)), (1, sV Bg), (2, sV Bf)] [true] rfl (subR rfl)
 refine Fs (Fg (lv S (Ra rfl) rfl ?_));clear S;intro a S
 refine Ld (Tn (Fs (Fs (Fg (lv S (Rm (S.tm rfl)) rfl ?_)))));clear S;intro a S
 refine lv S (rn_seql (S.tm rfl) rfl) rfl ?_;clear S;intro a S
 refine lv S (Rm (S.tm rfl)) rfl ?_;clear S;intro a S
 refine f_cutm 3 (fun a w' => Keep [] w w' ∧ Sx w [O] nov [.blk O [U, iV Aa] 25] [(0, .pointer (some ⟨O, 0, none⟩)), (1, sV Bg), (2, sV Bf), (14, bV ((decide (Bg = k_empty)) || (decide (Bf = k_empty))))] 63 a w') ?_ ?_
 ·rcases Bool.eq_false_or_eq_true (decide (Bg = k_empty)) with hb1 | hb1
  ·refine l_skip S rfl rfl rfl (neq_t hb1) rfl ?_ rfl;clear S;intro a S
   refine l_skip S rfl rfl rfl (neq_t hb1) rfl ?_ rfl;clear S;intro a S
   refine lv S (rn_or_t (decide (Bf = k_empty)) hb1 (S.tm rfl) rfl) rfl ?_;clear S;intro a S
   refine Ld (Tn ?_)
   exact ⟨Keep.refl _ _, S.nf [true] rfl (subR rfl)⟩
  ·refine l_want S rfl rfl rfl hb1 (lv S (Rm (S.tm rfl)) rfl ?_);clear S;intro a S
   refine l_want S rfl rfl rfl hb1 (lv S (rn_seql (S.tm rfl) rfl) rfl ?_);clear S;intro a S
   refine lv S (rn_or_f hb1 (S.tm rfl) (S.tm rfl)) rfl ?_;clear S;intro a S
   refine Ld (Tn ?_)
   exact ⟨Keep.refl _ _, S.nf [true] rfl (subR rfl)⟩
 clear S;rintro a w1 ⟨hk1, S⟩
 refine Ld (Tn (f_cond (S.tm rfl) (fun hb2 => ?_) (fun hb2 => ?_)))
 ·replace h := iteT h hb2
  refine Fs (Fg (lv S (Rm (S.tm rfl)) rfl ?_));clear S;intro a S
  refine lv S (Ra (S.tm rfl)) rfl ?_;clear S;intro a S
  refine Ld (Tn (wp_ret (then_r ?_)))
  obtain rfl := Option.some.inj h
  exact f_ret S Tryz.results20 rfl ⟨(S.holds _ (List.mem_of_getElem? (i := 0) rfl)), rfl⟩
 ·replace h := iteF h hb2
  refine wp_skip (Tn (Fs (Fg (lv S (Rm (S.tm rfl)) rfl ?_))));clear S;intro a S
  refine lv S (Rm (S.tm rfl)) rfl ?_;clear S;intro a S
  refine lv S (rn_len_str Tryz.underlying9 (S.tm rfl)) rfl ?_;clear S;intro a S
  obtain ⟨r1, hr1, h⟩ := bindE h
  refine l_enter1 0 S (b := O) rfl rfl (fun _ => .blk O [U, iV r1.2] 25) (fun _ => run_call (vs := [.pointer (some ⟨O, 0, none⟩), iV (Bg.size : Int)]) ⟨(S.tm rfl), (S.tm rfl), trivial⟩ Tryz.call17) (Stream_Next_ok _ O U Ae (Ag.mono (S.le_arg (fp_sub (i := 0) (e := .blk O [U, iV Aa] 25) rfl))) Aa (S.holds _ (List.mem_of_getElem? (i := 0) rfl)) (Bg.size : Int) _ hr1) rfl (fun _ _ _ h => ⟨h.1, fun _ hc => by cases hc;rfl⟩) ?_;clear S;intro v1 a w2 hv1 hk2 hn1 S
  replace hv1 := hv1.2
  subst hv1
  refine lv S (Ra (S.tm rfl)) rfl ?_;clear S;intro a S
  refine Ld (Tn (Fs (Fg (lv S (Rm (S.tm rfl)) rfl ?_))));clear S;intro a S
  refine lv S (Rm (S.tm rfl)) rfl ?_;clear S;intro a S
  refine lv S (Rm (S.tm rfl)) rfl ?_;clear S;intro a S
  refine lv S (rn_len_str Tryz.underlying9 (S.tm rfl)) rfl ?_;clear S;intro a S
  obtain ⟨r2, hr2, h⟩ := bindE h
  refine l_enter1 0 S (b := O) rfl rfl (fun _ => .blk O [U, iV r2.2] 25) (fun _ => run_call (vs := [.pointer (some ⟨O, 0, none⟩), iV (Bf.size : Int)]) ⟨(S.tm rfl), (S.tm rfl), trivial⟩ Tryz.call17) (Stream_Next_ok _ O U Ae (Ag.mono (S.le_arg (fp_sub (i := 0) (e := .blk O [U, iV r1.2] 25) rfl))) r1.2 (S.holds _ (List.mem_of_getElem? (i := 0) rfl)) (Bf.size : Int) _ hr2) rfl (fun _ _ _ h => ⟨h.1, fun _ hc => by cases hc;rfl⟩) ?_;clear S;intro v2 a w3 hv2 hk3 hn2 S
  replace hv2 := hv2.2
  subst hv2
  obtain ⟨hc1, h⟩ := chkE h
  refine lv S (rn_sindexT Tryz.underlying9 (S.tm rfl) (S.tm rfl) hc1) rfl ?_;clear S;intro a S
  refine lv S (Ra (S.tm rfl)) rfl ?_;clear S;intro a S
  refine Ld ?_
  replace S := S.nk [.blk O [U, iV r2.2] 25] [(0, .pointer (some ⟨O, 0, none⟩)), (1, sV Bg), (7, iV r1.1), (8, .int .u8 (sbyte Bf r2.1))] [true] rfl (subR rfl)
  refine Tn (Fs (Fs (Fg (lv S (Rm (S.tm rfl)) rfl ?_))));clear S;intro a S
  obtain ⟨r3, hr3, h⟩ := bindE h
  refine l_enter1 0 S (b := O) rfl rfl (fun _ => .blk O [U, iV r3.2] 25) (fun _ => run_call (vs := [.pointer (some ⟨O, 0, none⟩), iV 3]) ⟨(S.tm rfl), rfl, trivial⟩ Tryz.call17) (Stream_Next_ok _ O U Ae (Ag.mono (S.le_arg (fp_sub (i := 0) (e := .blk O [U, iV r2.2] 25) rfl))) r2.2 (S.holds _ (List.mem_of_getElem? (i := 0) rfl)) 3 _ hr3) rfl (fun _ _ _ h => ⟨h.1, fun _ hc => by cases hc;rfl⟩) ?_;clear S;intro v3 a w4 hv3 hk4 hn3 S
  replace hv3 := hv3.2
  subst hv3
  refine Ld (Tn (wp_block (Fs (Fg (lv S (rn_eql (S.tm rfl) rfl) rfl ?_)))));clear S;intro a S
  refine lv S (Ra (S.tm rfl)) rfl ?_;clear S;intro a S
  refine Ld (Tn (f_cond (S.tm rfl) (fun hb3 => ?_) (fun hb3 => ?_)))
  ·replace h := iteT h hb3
   refine Fs (d_region [] ([]) Tryz.mixed S rfl (by kernel_rfl) ?_);clear S;intro w5 hk5 hsel S
   refine d_rest [0, 1, 2, 3, 4, 5, 6, 7, 8, 9, 10, 11, 12] hsel (by kernel_rfl) rfl ?_
   clear hsel
   refine s_lv S rfl (Rm (S.tm rfl)) rfl ?_;clear S;intro a S
   refine s_lv S rfl (Rm (S.tm rfl)) rfl ?_;clear S;intro a S
   obtain ⟨hc2, h⟩ := chkE h
   refine s_lv S rfl (rn_scutTh Tryz.underlying9 (S.tm rfl) (S.tm rfl) hc2) rfl ?_;clear S;intro a S
   refine s_lv S rfl (Rm (S.tm rfl)) rfl ?_;clear S;intro a S
   refine s_lv S rfl (rn_conv Tryz.underlying5 Tryz.underlying21 (S.tm rfl)) rfl ?_;clear S;intro a S
   refine s_lv S rfl (rn_runestr Tryz.underlying21 Tryz.underlying9 (S.tm rfl)) rfl ?_;clear S;intro a S
   obtain ⟨hc3, h⟩ := chkE h
   refine s_lv S rfl (rn_sadd (m := (scut Bg 0 r1.1)) (n := (Utf8.encode (IntKind.wrap .i32 (sbyte Bf r2.1)))) (S.tm rfl) (S.tm rfl) (by have := room_lt hc3;omega)) rfl ?_;clear S;intro a S
   refine s_lv S rfl (Rm (S.tm rfl)) rfl ?_;clear S;intro a S
   refine s_lv S rfl (Rm (S.tm rfl)) rfl ?_;clear S;intro a S
   refine s_lv S rfl (rn_add (S.tm rfl) rfl) rfl ?_;clear S;intro a S
   obtain ⟨hc4, h⟩ := chkE h
   refine s_lv S rfl (rn_scutTl Tryz.underlying9 (S.tm rfl) (S.tm rfl) hc4) rfl ?_;clear S;intro a S
   obtain ⟨hc5, h⟩ := chkE h
   refine s_lv S rfl (rn_sadd (m := ((scut Bg 0 r1.1) ++ (Utf8.encode (IntKind.wrap .i32 (sbyte Bf r2.1))))) (n := (scut Bg (W (r1.1 + 1)) Bg.size)) (S.tm rfl) (S.tm rfl) (by have := room_lt hc5;omega)) rfl ?_;clear S;intro a S
   refine s_lv S rfl (Ra (S.tm rfl)) rfl ?_;clear S;intro a S
   refine s_done ?_
   replace S := S.nk [.blk O [U, iV r3.2] 25] [(6, sV (((scut Bg 0 r1.1) ++ (Utf8.encode (IntKind.wrap .i32 (sbyte Bf r2.1)))) ++ (scut Bg (W (r1.1 + 1)) Bg.size)))] [true] rfl ⟨rfl, trivial⟩
   refine Tn (wp_ret (blk_r (then_r ?_)))
   obtain rfl := Option.some.inj h
   exact f_ret S Tryz.results20 rfl ⟨(S.holds _ (List.mem_of_getElem? (i := 0) rfl)), rfl⟩
  ·replace h := iteF h hb3
   refine Fs (Fg (lv S (rn_eql (S.tm rfl) rfl) rfl ?_));clear S;intro a S
   refine lv S (Ra (S.tm rfl)) rfl ?_;clear S;intro a S
   refine Ld (Tn (f_cond (S.tm rfl) (fun hb4 => ?_) (fun hb4 => ?_)))
   ·replace h := iteT h hb4
    refine Fs (d_region [] ([]) Tryz.mixed S rfl (by kernel_rfl) ?_);clear S;intro w6 hk6 hsel S
    refine d_rest [0, 1, 2, 3, 4, 5, 6, 7, 8, 9, 10, 11] hsel (by kernel_rfl) rfl ?_
    clear hsel
    refine s_lv S rfl (Rm (S.tm rfl)) rfl ?_;clear S;intro a S
    refine s_lv S rfl (Rm (S.tm rfl)) rfl ?_;clear S;intro a S
    obtain ⟨hc6, h⟩ := chkE h
    refine s_lv S rfl (rn_scutTh Tryz.underlying9 (S.tm rfl) (S.tm rfl) hc6) rfl ?_;clear S;intro a S
    refine s_lv S rfl (Rm (S.tm rfl)) rfl ?_;clear S;intro a S
    refine s_lv S rfl (rn_conv Tryz.underlying5 Tryz.underlying21 (S.tm rfl)) rfl ?_;clear S;intro a S
    refine s_lv S rfl (rn_runestr Tryz.underlying21 Tryz.underlying9 (S.tm rfl)) rfl ?_;clear S;intro a S
    obtain ⟨hc7, h⟩ := chkE h
    refine s_lv S rfl (rn_sadd (m := (scut Bg 0 r1.1)) (n := (Utf8.encode (IntKind.wrap .i32 (sbyte Bf r2.1)))) (S.tm rfl) (S.tm rfl) (by have := room_lt hc7;omega)) rfl ?_;clear S;intro a S
    refine s_lv S rfl (Rm (S.tm rfl)) rfl ?_;clear S;intro a S
    refine s_lv S rfl (Rm (S.tm rfl)) rfl ?_;clear S;intro a S
    obtain ⟨hc8, h⟩ := chkE h
    refine s_lv S rfl (rn_scutTl Tryz.underlying9 (S.tm rfl) (S.tm rfl) hc8) rfl ?_;clear S;intro a S
    obtain ⟨hc9, h⟩ := chkE h
    refine s_lv S rfl (rn_sadd (m := ((scut Bg 0 r1.1) ++ (Utf8.encode (IntKind.wrap .i32 (sbyte Bf r2.1))))) (n := (scut Bg r1.1 Bg.size)) (S.tm rfl) (S.tm rfl) (by have := room_lt hc9;omega)) rfl ?_;clear S;intro a S
    refine s_lv S rfl (Ra (S.tm rfl)) rfl ?_;clear S;intro a S
    refine s_done ?_
    replace S := S.nk [.blk O [U, iV r3.2] 25] [(6, sV (((scut Bg 0 r1.1) ++ (Utf8.encode (IntKind.wrap .i32 (sbyte Bf r2.1)))) ++ (scut Bg r1.1 Bg.size)))] [true] rfl ⟨rfl, trivial⟩
    refine Tn (wp_ret (blk_r (then_r ?_)))
    obtain rfl := Option.some.inj h
    exact f_ret S Tryz.results20 rfl ⟨(S.holds _ (List.mem_of_getElem? (i := 0) rfl)), rfl⟩
   ·replace h := iteF h hb4
    refine wp_skip (blk_n (Tn (Fs (d_region [] ([]) Tryz.mixed S rfl (by kernel_rfl) ?_))));clear S;intro w7 hk7 hsel S
    refine d_rest [0, 1, 2, 3, 4, 5, 6, 7, 8] hsel (by kernel_rfl) rfl ?_
    clear hsel
    refine s_lv S rfl (Rm (S.tm rfl)) rfl ?_;clear S;intro a S
    refine s_lv S rfl (Rm (S.tm rfl)) rfl ?_;clear S;intro a S
    obtain ⟨hc10, h⟩ := chkE h
    refine s_lv S rfl (rn_scutTh Tryz.underlying9 (S.tm rfl) (S.tm rfl) hc10) rfl ?_;clear S;intro a S
    refine s_lv S rfl (Rm (S.tm rfl)) rfl ?_;clear S;intro a S
    refine s_lv S rfl (Rm (S.tm rfl)) rfl ?_;clear S;intro a S
    refine s_lv S rfl (rn_add (S.tm rfl) rfl) rfl ?_;clear S;intro a S
    obtain ⟨hc11, h⟩ := chkE h
    refine s_lv S rfl (rn_scutTl Tryz.underlying9 (S.tm rfl) (S.tm rfl) hc11) rfl ?_;clear S;intro a S
    obtain ⟨hc12, h⟩ := chkE h
    refine s_lv S rfl (rn_sadd (m := (scut Bg 0 r1.1)) (n := (scut Bg (W (r1.1 + 1)) Bg.size)) (S.tm rfl) (S.tm rfl) (by have := room_lt hc12;omega)) rfl ?_;clear S;intro a S
    refine s_lv S rfl (Ra (S.tm rfl)) rfl ?_;clear S;intro a S
    refine s_done ?_
    replace S := S.nk [.blk O [U, iV r3.2] 25] [(6, sV ((scut Bg 0 r1.1) ++ (scut Bg (W (r1.1 + 1)) Bg.size)))] [true] rfl ⟨rfl, trivial⟩
    refine Tn (wp_ret ?_)
    obtain rfl := Option.some.inj h
    exact f_ret S Tryz.results20 rfl ⟨(S.holds _ (List.mem_of_getElem? (i := 0) rfl)), rfl⟩
theorem Stream_ScoredText_ok (w : World) (O : Nat) (U : Value) (Ae : List Int) (Ag : Slc (view w [O]) 1 U (Ae.map eInt)) (Aa : Int) (Aw : (LEnt.blk O [U, iV Aa] 25).holds w) (hg_pow10 : Glob (view w [O]) 3 pow10Cells) (r : ByteArray × Int) (h : Stream_ScoredText Ae Aa = some r) :
    Calls Tryz.prog 5 [.pointer (some ⟨O, 0, none⟩)].toArray w (Ret w [O] fun _ v w' => (LEnt.blk O [U, iV r.2] 25).holds w' ∧ v = sV r.1) := by
 refine f_enter [O] [.blk O [U, iV Aa] 25] Tryz.func5 rfl Tryz.ntmps5 rfl (fun e he => by simp only [List.mem_singleton] at he;subst he;exact Aw) (by simp [fps, LEnt.fp]) (by simp [fps, LEnt.fp]) fun a S => ?_
 unfold Stream_ScoredText at h
 replace S := S.nk [.blk O [U, iV Aa] 25] [(0, .pointer (some ⟨O, 0, none⟩))] [true] rfl ⟨rfl, trivial⟩
 refine Fs (Fg (lv S (Ra rfl) rfl ?_));clear S;intro a S
 refine Ld (Tn (Fs (Fg (lv S (Rm (S.tm rfl)) rfl ?_))));clear S;intro a S
 obtain ⟨r1, hr1, h⟩ := bindE h
 have hz1 := S.keep.size
 refine l_enter1 0 S (b := O) rfl rfl (fun _ => .blk O [U, iV r1.2] 25) (fun _ => run_call (vs := [.pointer (some ⟨O, 0, none⟩)]) ⟨(S.tm rfl), trivial⟩ Tryz.call13) (Stream_RightScored_ok _ O U Ae (Ag.mono (S.le_arg (fp_sub (i := 0) (e := .blk O [U, iV Aa] 25) rfl))) Aa (S.holds _ (List.mem_of_getElem? (i := 0) rfl)) _ hr1) rfl (fun _ _ _ h => ⟨h.1, fun _ hc => by cases hc;rfl⟩) ?_;clear S;intro v1 a w1 hv1 hk1 hn1 S
 replace hv1 := hv1.2
 obtain ⟨φ1, hl1, hm1, S⟩ := S.see' hn1 hz1
 have hs1 := hv1.mono hm1
 refine lv S (Ra (S.tm rfl)) rfl ?_;clear S;intro a S
 refine Ld (Tn (Fs (Fg (lv S (Rm (S.tm rfl)) rfl ?_))));clear S;intro a S
 refine lv S (Rm (S.tm rfl)) rfl ?_;clear S;intro a S
 refine lv S (rn_lenT sl_26 (S.tm rfl) (slc_len (ownV_slcT GScored.enc_ok hs1))) rfl ?_;clear S;intro a S
 refine lv S (rn_min2 (S.tm rfl) rfl) rfl ?_;clear S;intro a S
 obtain ⟨hc1, h⟩ := chkE h
 obtain ⟨v2, hs2, hr2⟩ := rn_cutTh (a := a) (x := .tmp 7) (y' := .tmp 10) (ty := 26) sl_26 (ownV_slcT GScored.enc_ok hs1) (S.tm rfl) (S.tm rfl) hc1
 refine lv S (hr2 _) rfl ?_;clear S;intro a S
 clear hr2
 obtain ⟨r2, hr3, h⟩ := bindE h
 refine l_enter S (fun _ => run_call (vs := [v2]) ⟨(S.tm rfl), trivial⟩ Tryz.call8) (tumbref2_ScoredLines_ok _ v2 (cut r1.1 0 (imin (r1.1.length : Int) 4)) (hs2.mono (S.le_new nil_sub)) (hg_pow10.mono (S.le_arg nil_sub)) _ hr3) rfl ?_;clear S;intro v3 a w2 hv2 hk2 hn2 S
 subst hv2
 refine lv S (Ra (S.tm rfl)) rfl ?_;clear S;intro a S
 refine Ld (Tn (Fs (Fs (Fg (lv S (Rm (S.tm rfl)) rfl ?_)))));clear S;intro a S
 refine l_buildSlice S Tryz.underlying22 Tryz.sizeOf3 Tryz.zeroValue3 rfl rfl (pv := [(0, iV 0), (1, iV 0), (2, iV 1), (3, iV 2)]) ⟨rfl, rfl, rfl, rfl, rfl, rfl, rfl, rfl, trivial⟩ (cs := [iV 0, iV 0, iV 1, iV 2]) (by kernel_rfl) rfl ?_;clear S;intro a w3 b1 hz2 hk3 S
 obtain ⟨r3, hr4, h⟩ := bindE h
 refine l_enter1 1 S (b := O) rfl rfl (fun _ => .blk O [U, iV r3.2] 25) (fun _ => run_call (vs := [.pointer (some ⟨O, 0, none⟩), .slice (some ⟨b1, 0, none⟩) 4 4]) ⟨(S.tm rfl), (S.tm rfl), trivial⟩ Tryz.call19) (Stream_Pick_ok _ O U Ae (Ag.mono (S.le_arg (fp_sub (i := 1) (e := .blk O [U, iV r1.2] 25) rfl))) r1.2 (S.holds _ (List.mem_of_getElem? (i := 1) rfl)) (.slice (some ⟨b1, 0, none⟩) 4 4) [0, 0, 1, 2] (lit_slcT enc_int S (i := 0) rfl rfl rfl rfl ((ne_fp (i := 1) (j := 0) (e := .blk O [U, iV r1.2] 25) (e' := .blk b1 [iV 0, iV 0, iV 1, iV 2] 3) S rfl rfl rfl) _ rfl)) _ hr4) rfl (fun _ _ _ h => ⟨h.1, fun _ hc => by cases hc;rfl⟩) ?_;clear S;intro v4 a w4 hv3 hk4 hn3 S
 replace hv3 := hv3.2
 subst hv3
 refine lv S (Rm rfl) rfl ?_;clear S;intro a S
 refine Ld ?_
 replace S := S.nk [.blk O [U, iV r3.2] 25] [(0, .pointer (some ⟨O, 0, none⟩)), (4, sV r2), (15, iV r3.1), (16, iV 0)] [false, true] rfl (subR rfl)
 refine Tn ?_
 obtain ⟨j1, hj1, h⟩ := joinE h
 refine f_join (fun a w' => ∃ x1 : Int, ∃ x2 : ByteArray, j1 x1 x2 = some r ∧ Sx w [O] φ1 [.blk O [U, iV x1] 25] [(4, sV x2)] 23 a w') ?_ ?_
 ·refine wp_block (f_loop (fun (m1 : Nat) a w' => ∃ x1 : Int, ∃ x2 : ByteArray, ∃ x3 : Int, Stream_ScoredText_l1 r3 Ae j1 m1 x1 x2 x3 = some r ∧ Sx w [O] φ1 [.blk O [U, iV x1] 25] [(0, .pointer (some ⟨O, 0, none⟩)), (4, sV x2), (15, iV r3.1), (16, iV x3)] 23 a w') id ((r3.1 - 0).toNat + 2) ⟨r3.2, r2, 0, h, S.nf [true] rfl (subR rfl)⟩ ?_)
  clear S h;rintro m1 a w5 ⟨x1, x2, x3, h, S⟩
  cases m1 with
  | zero => rw [Stream_ScoredText_l1.eq_1] at h;cases h
  | succ m1 =>
   rw [Stream_ScoredText_l1.eq_2] at h
   refine Fs (Fg (lv S (rn_lss (S.tm rfl) (S.tm rfl)) rfl ?_));clear S;intro a S
   refine Ld (Tn (Fs (f_cond (S.tm rfl) (fun hb1 => ?_) (fun hb1 => ?_))))
   ·replace h := iteT h hb1
    refine wp_skip (Tn (Fs (wp_block (Fg (lv S (Rm (S.tm rfl)) rfl ?_)))));clear S;intro a S
    refine lv S (Rm (S.tm rfl)) rfl ?_;clear S;intro a S
    obtain ⟨r4, hr5, h⟩ := bindE h
    refine l_enter1 0 S (b := O) rfl rfl (fun _ => .blk O [U, iV r4.2] 25) (fun _ => run_call (vs := [.pointer (some ⟨O, 0, none⟩), sV x2, sV k__20_0a0_2d9rsa1]) ⟨(S.tm rfl), (S.tm rfl), rfl, trivial⟩ Tryz.call20) (Stream_Changed_ok _ O U Ae (Ag.mono (S.le_arg (fp_sub (i := 0) (e := .blk O [U, iV x1] 25) rfl))) x1 (S.holds _ (List.mem_of_getElem? (i := 0) rfl)) x2 k__20_0a0_2d9rsa1 _ hr5) rfl (fun _ _ _ h => ⟨h.1, fun _ hc => by cases hc;rfl⟩) ?_;clear S;intro v5 a w7 hv4 hk5 hn4 S
    replace hv4 := hv4.2
    subst hv4
    refine lv S (Ra (S.tm rfl)) rfl ?_;clear S;intro a S
    refine Ld (blk_n (Tn (Fg (lv S (rn_add (S.tm rfl) rfl) rfl ?_))));clear S;intro a S
    refine lv S (Rm (S.tm rfl)) rfl ?_;clear S;intro a S
    refine Ld (Tn ?_)
    exact ⟨m1, ⟨r4.2, r4.1, W (x3 + 1), h, S.nf [true] rfl ⟨rfl, rfl, rfl, rfl, trivial⟩⟩, Nat.lt_succ_self _⟩
   ·replace h := iteF h hb1
    refine wp_exit (then_x (then_x (x_same (Tn ?_))))
    exact ⟨x1, x2, h, S.nf [true] rfl ⟨rfl, trivial⟩⟩
 clear S h;rintro a w6 ⟨x1, x2, h, S⟩;rw [hj1] at h;clear hj1 j1
 refine Tn (Fs (Fg (lv S (Rm (S.tm rfl)) rfl ?_)));clear S;intro a S
 refine lv S (Ra (S.tm rfl)) rfl ?_;clear S;intro a S
 refine Ld (Tn (wp_ret ?_))
 obtain rfl := Option.some.inj h
 exact f_ret S Tryz.results5 rfl ⟨(S.holds _ (List.mem_of_getElem? (i := 0) rfl)), rfl⟩
theorem strings_Trim_ok (w : World) (s c : ByteArray) (r : ByteArray) (h : strings_Trim s c = some r) : Calls Tryz.prog 59 [.string s, .string c].toArray w (Ret w [] fun _ v _ => v = .string r) := by
  unfold strings_Trim at h
  obtain ⟨h1, h⟩ := chkE h
  obtain ⟨h2, h⟩ := chkE h
  obtain ⟨h3, h⟩ := chkE h
  obtain rfl := Option.some.inj h
  exact ret_of_below (Any.strings_Trim_laid Tryz.lays160 (by kernel_rfl) s c w (by simpa using h1) (by simpa using h2) (fun j b hb => by simpa using List.all_eq_true.1 h3 b (List.mem_of_getElem? hb)))
theorem words_IsKey_ok (w : World) (Ac : ByteArray) (r : Bool) (h : words_IsKey Ac = some r) :
    Calls Tryz.prog 45 [sV Ac].toArray w (Ret w [] fun _ v _ => v = bV r) := by
 refine f_enter [] [] Tryz.func45 rfl Tryz.ntmps45 rfl (by simp) (by simp [fps]) (by simp [fps]) fun a S => ?_
 unfold words_IsKey at h
 replace S := S.nk [] [(0, sV Ac)] [] rfl ⟨rfl, trivial⟩
 refine Fs (Fg (lv S (Ra rfl) rfl ?_));clear S;intro a S
 refine Ld (Tn (Fs (Fg (lv S (Rm (S.tm rfl)) rfl ?_))));clear S;intro a S
 refine lv S (rn_len_str Tryz.underlying9 (S.tm rfl)) rfl ?_;clear S;intro a S
 refine lv S (rn_geq (S.tm rfl) rfl) rfl ?_;clear S;intro a S
 refine lv S (Rm (S.tm rfl)) rfl ?_;clear S;intro a S
 refine f_cutm 4 (fun a w' => Keep [] w w' ∧ Sx w [] nov [] [(0, sV Ac), (10, bV ((decide (1 ≤ (Ac.size : Int))) && (decide ((Ac.size : Int) ≤ 40))))] 26 a w') ?_ ?_
 ·rcases Bool.eq_false_or_eq_true (decide (1 ≤ (Ac.size : Int))) with hb1 | hb1
  ·refine l_want S rfl rfl rfl hb1 (lv S (Rm (S.tm rfl)) rfl ?_);clear S;intro a S
   refine l_want S rfl rfl rfl hb1 (lv S (rn_len_str Tryz.underlying9 (S.tm rfl)) rfl ?_);clear S;intro a S
   refine l_want S rfl rfl rfl hb1 (lv S (rn_leq (S.tm rfl) rfl) rfl ?_);clear S;intro a S
   refine lv S (rn_and_t hb1 (S.tm rfl) (S.tm rfl)) rfl ?_;clear S;intro a S
   refine Ld (Tn ?_)
   exact ⟨Keep.refl _ _, S.nf [] rfl (subR rfl)⟩
  ·iterate 3 (refine l_skip S rfl rfl rfl (neq_f hb1) rfl ?_ rfl;clear S;intro a S)
   refine lv S (rn_and_f (decide ((Ac.size : Int) ≤ 40)) hb1 (S.tm rfl) rfl) rfl ?_;clear S;intro a S
   refine Ld (Tn ?_)
   exact ⟨Keep.refl _ _, S.nf [] rfl (subR rfl)⟩
 clear S;rintro a w1 ⟨hk1, S⟩
 refine lv S (Rm (S.tm rfl)) rfl ?_;clear S;intro a S
 obtain ⟨j1, hj1, h⟩ := joinE h
 refine f_cutm 4 (fun a w' => ∃ c1, j1 c1 = some r ∧ Keep [] w1 w' ∧ Sx w [] nov [] [(0, sV Ac), (15, bV c1)] 26 a w') ?_ ?_
 ·rcases Bool.eq_false_or_eq_true ((decide (1 ≤ (Ac.size : Int))) && (decide ((Ac.size : Int) ≤ 40))) with hb2 | hb2
  ·replace h := iteT h hb2
   refine l_want S rfl rfl rfl hb2 (lv S (Rm (S.tm rfl)) rfl ?_);clear S;intro a S
   refine l_want S rfl rfl rfl hb2 ?_
   obtain ⟨hc1, h⟩ := chkE h
   refine lv S (rn_sindexT Tryz.underlying9 (S.tm rfl) rfl hc1) rfl ?_;clear S;intro a S
   refine l_want S rfl rfl rfl hb2 (lv S (rn_geq (S.tm rfl) rfl) rfl ?_);clear S;intro a S
   refine lv S (rn_and_t hb2 (S.tm rfl) (S.tm rfl)) rfl ?_;clear S;intro a S
   refine Ld (Tn ?_)
   exact ⟨_, h, Keep.refl _ _, S.nf [] rfl (subR rfl)⟩
  ·replace h := iteF h hb2
   iterate 3 (refine l_skip S rfl rfl rfl (neq_f hb2) rfl ?_ rfl;clear S;intro a S)
   refine lv S (rn_and_f true hb2 (S.tm rfl) rfl) rfl ?_;clear S;intro a S
   refine Ld (Tn ?_)
   exact ⟨_, h, Keep.refl _ _, S.nf [] rfl (subR rfl)⟩
 clear S h;rintro a w2 ⟨c1, h, hk2, S⟩;rw [hj1] at h;clear hj1 j1
 refine lv S (Rm (S.tm rfl)) rfl ?_;clear S;intro a S
 obtain ⟨j2, hj2, h⟩ := joinE h
 refine f_cutm 4 (fun a w' => ∃ c2, j2 c2 = some r ∧ Keep [] w2 w' ∧ Sx w [] nov [] [(0, sV Ac), (20, bV c2)] 26 a w') ?_ ?_
 ·rcases Bool.eq_false_or_eq_true c1 with hb3 | hb3
  ·replace h := iteT h hb3
   refine l_want S rfl rfl rfl hb3 (lv S (Rm (S.tm rfl)) rfl ?_);clear S;intro a S
   refine l_want S rfl rfl rfl hb3 ?_
   obtain ⟨hc2, h⟩ := chkE h
   refine lv S (rn_sindexT Tryz.underlying9 (S.tm rfl) rfl hc2) rfl ?_;clear S;intro a S
   refine l_want S rfl rfl rfl hb3 (lv S (rn_leq (S.tm rfl) rfl) rfl ?_);clear S;intro a S
   refine lv S (rn_and_t hb3 (S.tm rfl) (S.tm rfl)) rfl ?_;clear S;intro a S
   refine Ld (Tn ?_)
   exact ⟨_, h, Keep.refl _ _, S.nf [] rfl (subR rfl)⟩
  ·replace h := iteF h hb3
   iterate 3 (refine l_skip S rfl rfl rfl (neq_f hb3) rfl ?_ rfl;clear S;intro a S)
   refine lv S (rn_and_f true hb3 (S.tm rfl) rfl) rfl ?_;clear S;intro a S
   refine Ld (Tn ?_)
   exact ⟨_, h, Keep.refl _ _, S.nf [] rfl (subR rfl)⟩
 clear S h;rintro a w3 ⟨c2, h, hk3, S⟩;rw [hj2] at h;clear hj2 j2
 refine lv S (Rm (S.tm rfl)) rfl ?_;clear S;intro a S
 obtain ⟨j3, hj3, h⟩ := joinE h
 refine f_cutm 4 (fun a w' => ∃ c3, j3 c3 = some r ∧ Keep [] w3 w' ∧ Sx w [] nov [] [(25, bV c3)] 26 a w') ?_ ?_
 ·rcases Bool.eq_false_or_eq_true c2 with hb4 | hb4
  ·replace h := iteT h hb4
   refine l_want S rfl rfl rfl hb4 (lv S (Rm (S.tm rfl)) rfl ?_);clear S;intro a S
   refine l_want S rfl rfl rfl hb4 ?_
   obtain ⟨r1, hr1, h⟩ := bindE h
   refine l_enter S (fun _ => run_call (vs := [sV Ac, sV k_abcdefghijkl_h0e2e2c]) ⟨(S.tm rfl), rfl, trivial⟩ Tryz.call59) (strings_Trim_ok _ Ac k_abcdefghijkl_h0e2e2c _ hr1) rfl ?_;clear S;intro v1 a w5 hv1 hk4 hn1 S
   subst hv1
   refine l_want S rfl rfl rfl hb4 (lv S (rn_seql (S.tm rfl) rfl) rfl ?_);clear S;intro a S
   refine lv S (rn_and_t hb4 (S.tm rfl) (S.tm rfl)) rfl ?_;clear S;intro a S
   refine Ld (Tn ?_)
   exact ⟨_, h, hk4, S.nf [] rfl ⟨rfl, trivial⟩⟩
  ·replace h := iteF h hb4
   iterate 3 (refine l_skip S rfl rfl rfl (neq_f hb4) rfl ?_ rfl;clear S;intro a S)
   refine lv S (rn_and_f true hb4 (S.tm rfl) rfl) rfl ?_;clear S;intro a S
   refine Ld (Tn ?_)
   exact ⟨_, h, Keep.refl _ _, S.nf [] rfl ⟨rfl, trivial⟩⟩
 clear S h;rintro a w4 ⟨c3, h, hk5, S⟩;rw [hj3] at h;clear hj3 j3
 refine lv S (Ra (S.tm rfl)) rfl ?_;clear S;intro a S
 refine Ld (Tn (wp_ret ?_))
 obtain rfl := Option.some.inj h
 exact f_ret S Tryz.results45 rfl rfl
theorem words_Within_ok (w : World) (Ax : Int) (Au : Int) (As : Int) (r : Bool) (h : words_Within Ax Au As = r) :
    Calls Tryz.prog 46 [iV Ax, iV Au, iV As].toArray w (Ret w [] fun _ v _ => v = bV r) := by
 refine f_enter [] [] Tryz.func46 rfl Tryz.ntmps46 rfl (by simp) (by simp [fps]) (by simp [fps]) fun a S => ?_
 unfold words_Within at h
 replace S := S.nk [] [(0, iV Ax), (1, iV Au), (2, iV As)] [] rfl (subR rfl)
 refine Fs (Fg (lv S (Ra rfl) rfl ?_));clear S;intro a S
 refine Ld (Tn (Fs (Fg (lv S (Rm (S.tm rfl)) rfl ?_))));clear S;intro a S
 refine lv S (Rm (S.tm rfl)) rfl ?_;clear S;intro a S
 refine lv S (rn_geq (S.tm rfl) (S.tm rfl)) rfl ?_;clear S;intro a S
 refine lv S (Rm (S.tm rfl)) rfl ?_;clear S;intro a S
 refine f_cutm 4 (fun a w' => Keep [] w w' ∧ Sx w [] nov [] [(14, bV ((decide (Au ≤ Ax)) && (decide (Ax ≤ As))))] 15 a w') ?_ ?_
 ·rcases Bool.eq_false_or_eq_true (decide (Au ≤ Ax)) with hb1 | hb1
  ·refine l_want S rfl rfl rfl hb1 (lv S (Rm (S.tm rfl)) rfl ?_);clear S;intro a S
   refine l_want S rfl rfl rfl hb1 (lv S (Rm (S.tm rfl)) rfl ?_);clear S;intro a S
   refine l_want S rfl rfl rfl hb1 (lv S (rn_leq (S.tm rfl) (S.tm rfl)) rfl ?_);clear S;intro a S
   refine lv S (rn_and_t hb1 (S.tm rfl) (S.tm rfl)) rfl ?_;clear S;intro a S
   refine Ld (Tn ?_)
   exact ⟨Keep.refl _ _, S.nf [] rfl ⟨rfl, trivial⟩⟩
  ·iterate 3 (refine l_skip S rfl rfl rfl (neq_f hb1) rfl ?_ rfl;clear S;intro a S)
   refine lv S (rn_and_f (decide (Ax ≤ As)) hb1 (S.tm rfl) rfl) rfl ?_;clear S;intro a S
   refine Ld (Tn ?_)
   exact ⟨Keep.refl _ _, S.nf [] rfl ⟨rfl, trivial⟩⟩
 clear S;rintro a w1 ⟨hk1, S⟩
 refine lv S (Ra (S.tm rfl)) rfl ?_;clear S;intro a S
 refine Ld (Tn (wp_ret ?_))
 subst h
 exact f_ret S Tryz.results46 rfl rfl
theorem points_compareRanks_ok (w : World) (Ak : Int) (Al : Int) (r : Int) (h : points_compareRanks Ak Al = r) :
    Calls Tryz.prog 70 [iV Ak, iV Al].toArray w (Ret w [] fun _ v _ => v = iV r) := by
 refine f_enter [] [] Tryz.func70 rfl Tryz.ntmps70 rfl (by simp) (by simp [fps]) (by simp [fps]) fun a S => ?_
 unfold points_compareRanks at h
 replace S := S.nk [] [(0, iV Ak), (1, iV Al)] [] rfl (subR rfl)
 refine Fs (Fg (lv S (Ra rfl) rfl ?_));clear S;intro a S
 refine Ld (Tn (Fs (Fs (Fg (lv S (Rm (S.tm rfl)) rfl ?_)))));clear S;intro a S
 refine lv S (rn_eql (S.tm rfl) rfl) rfl ?_;clear S;intro a S
 refine Ld (Tn ?_)
 obtain ⟨j1, hj1, h⟩ := joinE h
 refine f_join (fun a w' => ∃ x1 : Int, j1 x1 = r ∧ Sx w [] nov [] [(0, iV x1), (1, iV Al)] 12 a w') ?_ ?_
 ·refine f_cond (S.tm rfl) (fun hb1 => ?_) (fun hb1 => ?_)
  ·replace h := iteT h hb1
   refine Fg (lv S (Ra rfl) rfl ?_);clear S;intro a S
   refine Ld (Tn ?_)
   exact ⟨301, h, S.nf [] rfl (subR rfl)⟩
  ·replace h := iteF h hb1
   refine wp_skip (Tn ?_)
   exact ⟨Ak, h, S.nf [] rfl (subR rfl)⟩
 clear S h;rintro a w1 ⟨x1, h, S⟩;rw [hj1] at h;clear hj1 j1
 refine Tn (Fs (Fs (Fg (lv S (Rm (S.tm rfl)) rfl ?_))));clear S;intro a S
 refine lv S (rn_eql (S.tm rfl) rfl) rfl ?_;clear S;intro a S
 refine Ld (Tn ?_)
 obtain ⟨j2, hj2, h⟩ := joinE h
 refine f_join (fun a w' => ∃ x2 : Int, j2 x2 = r ∧ Sx w [] nov [] [(0, iV x1), (1, iV x2)] 12 a w') ?_ ?_
 ·refine f_cond (S.tm rfl) (fun hb2 => ?_) (fun hb2 => ?_)
  ·replace h := iteT h hb2
   refine Fg (lv S (Ra rfl) rfl ?_);clear S;intro a S
   refine Ld (Tn ?_)
   exact ⟨301, h, S.nf [] rfl (subR rfl)⟩
  ·replace h := iteF h hb2
   refine wp_skip (Tn ?_)
   exact ⟨Al, h, S.nf [] rfl (subR rfl)⟩
 clear S h;rintro a w2 ⟨x2, h, S⟩;rw [hj2] at h;clear hj2 j2
 refine Tn (Fs (Fg (lv S (Rm (S.tm rfl)) rfl ?_)));clear S;intro a S
 refine lv S (Rm (S.tm rfl)) rfl ?_;clear S;intro a S
 refine lv S (rn_sub (S.tm rfl) (S.tm rfl)) rfl ?_;clear S;intro a S
 refine lv S (Ra (S.tm rfl)) rfl ?_;clear S;intro a S
 refine Ld (Tn (wp_ret ?_))
 subst h
 exact f_ret S Tryz.results70 rfl rfl
theorem cmp_Or_int_ok (w : World) (Bk : Value) (Bj : List Int) (Bw : Slc (view w []) 1 Bk (Bj.map eInt)) (r : Int) (h : cmp_Or_int Bj = r) :
    Calls Tryz.prog 69 [Bk].toArray w (Ret w [] fun _ v _ => v = iV r) := by
 refine f_enter [] [] Tryz.func69 rfl Tryz.ntmps69 rfl (by simp) (by simp [fps]) (by simp [fps]) fun a S => ?_
 unfold cmp_Or_int at h
 replace S := S.nk [] [(0, Bk)] [] rfl ⟨rfl, trivial⟩
 refine Fs (Fg (lv S (Ra rfl) rfl ?_));clear S;intro a S
 refine Ld (Tn (Fs (Fg (lv S (Ra rfl) rfl ?_))));clear S;intro a S
 refine Ld (Tn (Fs (Fs (Fg (lv S (Rm (S.tm rfl)) rfl ?_)))));clear S;intro a S
 refine lv S (rn_lenT sl_22 (S.tm rfl) (slc_len Bw)) rfl ?_;clear S;intro a S
 refine lv S (Rm rfl) rfl ?_;clear S;intro a S
 refine Ld (Tn ?_)
 replace S := S.nk [] [(3, iV 0), (6, Bk), (7, iV (Bj.length : Int)), (8, iV 0)] [] rfl (subR rfl)
 obtain ⟨j1, hj1, h⟩ := joinE h
 refine f_join (fun a w' => j1 = r ∧ Sx w [] nov [] [(3, iV 0)] 18 a w') ?_ ?_
 ·refine wp_block (f_loop (fun (ys1 : List Int) a w' => ∃ i1 : Nat, (∃ dn, Bj = dn ++ ys1 ∧ dn.length = i1) ∧ cmp_Or_int_l1 j1 ys1 i1 = r ∧ Sx w [] nov [] [(3, iV 0), (6, Bk), (7, iV (Bj.length : Int)), (8, iV (i1 : Int))] 18 a w') List.length Bj ⟨0, ⟨[], rfl, rfl⟩, h, S.nf [] rfl (subR rfl)⟩ ?_)
  clear S h;rintro ys1 a w1 ⟨i1, ⟨dn, hd1, hi1⟩, h, S⟩
  cases ys1 with
  | nil =>
   rw [cmp_Or_int_l1.eq_1] at h
   refine Fs (Fg (lv S (rn_lss (S.tm rfl) (S.tm rfl)) rfl ?_));clear S;intro a S
   refine Ld ?_
   replace S := S.nk [] [(3, iV 0), (6, Bk), (7, iV (Bj.length : Int)), (8, iV (i1 : Int)), (9, bV (decide ((i1 : Int) < (Bj.length : Int))))] [] rfl (subR rfl)
   refine Tn (Fs (wp_cond_false ((S.tm rfl).trans (congrArg Value.bool (rng_nil hd1 hi1))) (wp_exit (then_x (then_x (x_same ?_))))))
   refine Tn ?_
   exact ⟨h, S.nf [] rfl ⟨rfl, trivial⟩⟩
  | cons y1 ys1 =>
   rw [cmp_Or_int_l1.eq_2] at h
   refine Fs (Fg (lv S (rn_lss (S.tm rfl) (S.tm rfl)) rfl ?_));clear S;intro a S
   refine Ld ?_
   replace S := S.nk [] [(3, iV 0), (6, Bk), (7, iV (Bj.length : Int)), (8, iV (i1 : Int)), (9, bV (decide ((i1 : Int) < (Bj.length : Int))))] [] rfl (subR rfl)
   refine Tn (Fs (wp_cond_true ((S.tm rfl).trans (congrArg Value.bool (rng_cons hd1 hi1))) (wp_skip (Tn (Fs (wp_block ?_))))))
   refine Fs (Fg ?_)
   obtain ⟨b1, o1, hm1, hr1⟩ := rn_indexT (a := a) (x := .tmp 6) (y := .tmp 8) (ty := 0) sl_22 Bw (get_mid hd1 hi1) rfl (S.tm rfl) (S.tm rfl)
   refine lv S (hr1 _) rfl ?_;clear S;intro a S
   clear hr1
   refine lv S (rn_ld Tryz.isAgg3 (off := o1) (o := 0) (S.tm rfl) (hm1.at S.emb0) rfl) rfl ?_;clear S;intro a S
   refine lv S (Ra (S.tm rfl)) rfl ?_;clear S;intro a S
   refine Ld (Tn (Fs (Fg (lv S (Rm (S.tm rfl)) rfl ?_))));clear S;intro a S
   refine lv S (Rm (S.tm rfl)) rfl ?_;clear S;intro a S
   refine lv S (rn_neq (S.tm rfl) (S.tm rfl)) rfl ?_;clear S;intro a S
   refine Ld (Tn (f_cond (S.tm rfl) (fun hb1 => ?_) (fun hb1 => ?_)))
   ·replace h := iteT h hb1
    refine Fs (Fg (lv S (Rm (S.tm rfl)) rfl ?_));clear S;intro a S
    refine lv S (Ra (S.tm rfl)) rfl ?_;clear S;intro a S
    refine Ld (Tn (wp_ret (blk_r (then_r (then_r (blk_r ?_))))))
    refine then_r (then_r ?_)
    subst h
    exact f_ret S Tryz.results69 rfl rfl
   ·replace h := iteF h hb1
    refine wp_skip (blk_n (Tn (Fg (lv S (rn_add (S.tm rfl) rfl) rfl ?_))));clear S;intro a S
    refine lv S (Rm (S.tm rfl)) rfl ?_;clear S;intro a S
    refine Ld (Tn ?_)
    exact ⟨ys1, ⟨i1 + 1, ⟨_, (hd1).trans (List.append_cons _ _ _), by simp [hi1]⟩, h, S.nf [] rfl ⟨rfl, rfl, rfl, (congrArg (fun z => some (Value.int .i64 z)) (rng_next hd1 hi1 (slc_max Bw))), trivial⟩⟩, Nat.lt_succ_self _⟩
 clear S h;rintro a w2 ⟨h, S⟩;rw [hj1] at h;clear hj1 j1
 refine Tn (Fs (Fg (lv S (Rm (S.tm rfl)) rfl ?_)));clear S;intro a S
 refine lv S (Ra (S.tm rfl)) rfl ?_;clear S;intro a S
 refine Ld (Tn (wp_ret ?_))
 subst h
 exact f_ret S Tryz.results69 rfl rfl
set_option maxRecDepth 20000 in
theorem points_compare_ok (w : World) (Ak : GScored) (Al : GScored) (r : Int) (h : points_compare Ak Al = r) :
    Calls Tryz.prog 47 [.agg (GScored.enc Ak).toArray, .agg (GScored.enc Al).toArray].toArray w (Ret w [] fun _ v _ => v = iV r) := by
 refine f_enter [] [] Tryz.func47 rfl Tryz.ntmps47 rfl (by simp) (by simp [fps]) (by simp [fps]) fun a S => ?_
 unfold points_compare at h
 replace S := S.nk [] [(0, .agg (GScored.enc Ak).toArray), (1, .agg (GScored.enc Al).toArray)] [] rfl (subR rfl)
 refine Fs (Fg (l_box S (S.tm rfl) (cs := (GScored.enc Ak)) rfl rfl ?_));clear S;intro a w1 b1 hz1 hk1 S
 refine l_box S (S.tm rfl) (cs := (GScored.enc Al)) rfl rfl ?_;clear S;intro a w2 b2 hz2 hk2 S
 refine lv S (Ra rfl) rfl ?_;clear S;intro a S
 refine Ld (Tn (Fs (d_region [] ([]) Tryz.mixed S rfl (by kernel_rfl) ?_)));clear S;intro w8 hk8 hsel S
 refine d_quiet 0 S hsel rfl rfl rfl (by kernel_rfl) (by kernel_rfl) rfl (fun _ hw => (rn_fld fa_38_0 (S.tm rfl))) ?_;clear S;intro a S
 refine d_quiet 1 S hsel rfl rfl rfl (by kernel_rfl) (by kernel_rfl) rfl (fun _ hw => (rn_ld Tryz.isAgg9 (off := 0) (o := 0) (S.tm rfl) ((S.blk_mem (i := 1) (cells := (GScored.enc Ak)) (b := b1) (T := 38) rfl (ne_nil (e' := .blk b1 (GScored.enc Ak) 38))).kept hw) rfl)) ?_;clear S;intro a S
 refine d_quiet 2 S hsel rfl rfl rfl (by kernel_rfl) (by kernel_rfl) rfl (fun _ hw => (rn_fld fa_38_0 (S.tm rfl))) ?_;clear S;intro a S
 refine d_quiet 3 S hsel rfl rfl rfl (by kernel_rfl) (by kernel_rfl) rfl (fun _ hw => (rn_ld Tryz.isAgg9 (off := 0) (o := 0) (S.tm rfl) ((S.blk_mem (i := 0) (cells := (GScored.enc Al)) (b := b2) (T := 38) rfl (ne_nil (e' := .blk b2 (GScored.enc Al) 38))).kept hw) rfl)) ?_;clear S;intro a S
 refine d_quiet 5 S hsel rfl rfl rfl (by kernel_rfl) (by kernel_rfl) rfl (fun _ hw => (rn_fld fa_38_3 (S.tm rfl))) ?_;clear S;intro a S
 refine d_quiet 6 S hsel rfl rfl rfl (by kernel_rfl) (by kernel_rfl) rfl (fun _ hw => (rn_ld Tryz.isAgg3 (off := 0) (o := 3) (S.tm rfl) ((S.blk_mem (i := 1) (cells := (GScored.enc Ak)) (b := b1) (T := 38) rfl (ne_nil (e' := .blk b1 (GScored.enc Ak) 38))).kept hw) rfl)) ?_;clear S;intro a S
 refine d_quiet 7 S hsel rfl rfl rfl (by kernel_rfl) (by kernel_rfl) rfl (fun _ hw => (rn_fld fa_38_3 (S.tm rfl))) ?_;clear S;intro a S
 refine d_quiet 8 S hsel rfl rfl rfl (by kernel_rfl) (by kernel_rfl) rfl (fun _ hw => (rn_ld Tryz.isAgg3 (off := 0) (o := 3) (S.tm rfl) ((S.blk_mem (i := 0) (cells := (GScored.enc Al)) (b := b2) (T := 38) rfl (ne_nil (e' := .blk b2 (GScored.enc Al) 38))).kept hw) rfl)) ?_;clear S;intro a S
 refine d_quiet 10 S hsel rfl rfl rfl (by kernel_rfl) (by kernel_rfl) rfl (fun _ hw => (rn_fld fa_38_1 (S.tm rfl))) ?_;clear S;intro a S
 refine d_quiet 11 S hsel rfl rfl rfl (by kernel_rfl) (by kernel_rfl) rfl (fun _ hw => (rn_ld Tryz.isAgg9 (off := 0) (o := 1) (S.tm rfl) ((S.blk_mem (i := 1) (cells := (GScored.enc Ak)) (b := b1) (T := 38) rfl (ne_nil (e' := .blk b1 (GScored.enc Ak) 38))).kept hw) rfl)) ?_;clear S;intro a S
 refine d_quiet 12 S hsel rfl rfl rfl (by kernel_rfl) (by kernel_rfl) rfl (fun _ hw => (rn_fld fa_38_1 (S.tm rfl))) ?_;clear S;intro a S
 refine d_quiet 13 S hsel rfl rfl rfl (by kernel_rfl) (by kernel_rfl) rfl (fun _ hw => (rn_ld Tryz.isAgg9 (off := 0) (o := 1) (S.tm rfl) ((S.blk_mem (i := 0) (cells := (GScored.enc Al)) (b := b2) (T := 38) rfl (ne_nil (e' := .blk b2 (GScored.enc Al) 38))).kept hw) rfl)) ?_;clear S;intro a S
 refine d_loud1 4 (by kernel_rfl) rfl (l_enter S (fun _ => run_call (vs := [sV Ak.Race, sV Al.Race]) ⟨(S.tm rfl), (S.tm rfl), trivial⟩ Tryz.call54) (strings_Compare_ok _ Ak.Race Al.Race _ rfl) rfl ?_);clear S;intro v5 a w9 hv5 hk9 hn5 S
 subst hv5
 refine Ld (d_next hk9 (d_loud1 9 (by kernel_rfl) rfl (l_enter S (fun _ => run_call (vs := [iV Ak.Rank, iV Al.Rank]) ⟨(S.tm rfl), (S.tm rfl), trivial⟩ Tryz.call70) (points_compareRanks_ok _ Ak.Rank Al.Rank _ rfl) rfl ?_)));clear S;intro v6 a w10 hv6 hk10 hn6 S
 subst hv6
 refine Ld (d_next hk10 (d_loud1 14 (by kernel_rfl) rfl (l_enter S (fun _ => run_call (vs := [sV Ak.Who, sV Al.Who]) ⟨(S.tm rfl), (S.tm rfl), trivial⟩ Tryz.call54) (strings_Compare_ok _ Ak.Who Al.Who _ rfl) rfl ?_)));clear S;intro v7 a w11 hv7 hk11 hn7 S
 subst hv7
 refine Ld (d_next hk11 (d_loud1 15 (by kernel_rfl) rfl (l_buildSlice S Tryz.underlying22 Tryz.sizeOf3 Tryz.zeroValue3 rfl rfl (pv := [(0, iV (strings_Compare Ak.Race Al.Race)), (1, iV (points_compareRanks Ak.Rank Al.Rank)), (2, iV (strings_Compare Ak.Who Al.Who))]) ⟨rfl, (S.tm rfl), rfl, (S.tm rfl), rfl, (S.tm rfl), trivial⟩ (cs := [iV (strings_Compare Ak.Race Al.Race), iV (points_compareRanks Ak.Rank Al.Rank), iV (strings_Compare Ak.Who Al.Who)]) (by kernel_rfl) rfl ?_)));clear S;intro a w12 b4 hz4 hk12 S
 refine Ld (d_next hk12 (d_loud1 16 (by kernel_rfl) rfl (l_enter S (fun _ => run_call (vs := [.slice (some ⟨b4, 0, none⟩) 3 3]) ⟨(S.tm rfl), trivial⟩ Tryz.call69) (cmp_Or_int_ok _ (.slice (some ⟨b4, 0, none⟩) 3 3) [(strings_Compare Ak.Race Al.Race), (points_compareRanks Ak.Rank Al.Rank), (strings_Compare Ak.Who Al.Who)] (lit_slcT enc_int S (i := 0) rfl rfl rfl rfl ((ne_nil (e' := .blk b4 [iV (strings_Compare Ak.Race Al.Race), iV (points_compareRanks Ak.Rank Al.Rank), iV (strings_Compare Ak.Who Al.Who)] 3)) _ rfl)) _ rfl) rfl ?_)));clear S;intro v8 a w13 hv8 hk13 hn8 S
 subst hv8
 refine Ld (d_next hk13 (d_rest [17] hsel (by kernel_rfl) rfl ?_))
 clear hsel
 refine s_lv S rfl (Ra (S.tm rfl)) rfl ?_;clear S;intro a S
 refine s_done ?_
 replace S := S.nk [] [(4, iV (cmp_Or_int [(strings_Compare Ak.Race Al.Race), (points_compareRanks Ak.Rank Al.Rank), (strings_Compare Ak.Who Al.Who)]))] [false, false, false] rfl ⟨rfl, trivial⟩
 refine Tn (wp_ret ?_)
 subst h
 exact f_ret S Tryz.results47 rfl rfl
set_option maxRecDepth 20000 in
theorem points_races_ok (w : World) (ψ : View) (hψ : View.le ψ (view w [])) (V : Value) (Z : List GScored) (Af : Slc ψ 5 V (Z.map GScored.enc)) (r : (List (List GScored))) (h : points_races Z = some r) :
    Calls Tryz.prog 71 [V].toArray w (Ret w [] fun τ v _ => SlcD (join ψ τ) 1 RS.enc rel_26 v r) := by
 refine f_enter [] [] Tryz.func71 rfl Tryz.ntmps71 rfl (by simp) (by simp [fps]) (by simp [fps]) fun a S => ?_
 unfold points_races at h
 replace S := S.nk [] [(0, V)] [] rfl ⟨rfl, trivial⟩
 refine Fs (Fg (lv S (Ra rfl) rfl ?_));clear S;intro a S
 refine Ld (Tn (Fs (Fg (lv S (Ra rfl) rfl ?_))));clear S;intro a S
 replace S := S.nil 26 1
 refine Ld (Tn (Fs (Fs (Fg (lv S (Ra rfl) rfl ?_)))));clear S;intro a S
 refine Ld (Tn ?_)
 replace S := S.nk [.own (.slice none 0 0) 26 1 ([] : List RS).length (([] : List RS).flatMap RS.enc)] [(0, V), (3, (.slice none 0 0)), (4, iV 0)] [true] rfl (subR rfl)
 obtain ⟨j1, hj1, h⟩ := joinE h
 refine f_join (fun a w' => ∃ x1 : List (List GScored), ∃ v1 : Value, ∃ rs1 : List RS, j1 x1 = some r ∧ All2 (rel_26 (join ψ nov)) x1 rs1 ∧ Sx w [] nov [.own v1 26 1 rs1.length (rs1.flatMap RS.enc)] [(3, v1)] 41 a w') ?_ ?_
 ·refine wp_block (f_loop (fun (m1 : Nat) a w' => ∃ x1 : List (List GScored), ∃ x2 : Int, ∃ v1 : Value, ∃ rs1 : List RS, points_races_l1 Z j1 m1 x1 x2 = some r ∧ All2 (rel_26 (join ψ nov)) x1 rs1 ∧ Sx w [] nov [.own v1 26 1 rs1.length (rs1.flatMap RS.enc)] [(0, V), (3, v1), (4, iV x2)] 41 a w') id (((Z.length : Int) - 0).toNat + 2) ⟨([] : List (List GScored)), 0, (.slice none 0 0), ([] : List RS), h, .nil, S.nf [true] rfl (subR rfl)⟩ ?_)
  clear S h;rintro m1 a w1 ⟨x1, x2, v1, rs1, h, hr1, S⟩
  cases m1 with
  | zero => rw [points_races_l1.eq_1] at h;cases h
  | succ m1 =>
   rw [points_races_l1.eq_2] at h
   refine Fs (Fs (Fg (lv S (Rm (S.tm rfl)) rfl ?_)));clear S;intro a S
   refine lv S (Rm (S.tm rfl)) rfl ?_;clear S;intro a S
   refine lv S (rn_lenT sl_26 (S.tm rfl) (slc_len Af)) rfl ?_;clear S;intro a S
   refine lv S (rn_lss (S.tm rfl) (S.tm rfl)) rfl ?_;clear S;intro a S
   refine Ld (Tn (f_cond (S.tm rfl) (fun hb1 => ?_) (fun hb1 => ?_)))
   ·replace h := iteT h hb1
    refine wp_skip (Tn (wp_block (Fs (Fg (lv S (Rm (S.tm rfl)) rfl ?_)))));clear S;intro a S
    refine lv S (rn_add (S.tm rfl) rfl) rfl ?_;clear S;intro a S
    refine lv S (Ra (S.tm rfl)) rfl ?_;clear S;intro a S
    refine Ld (Tn (Fs ?_))
    replace S := S.nk [.own v1 26 1 rs1.length (rs1.flatMap RS.enc)] [(0, V), (3, v1), (4, iV x2), (5, iV (W (x2 + 1)))] [true] rfl (subR rfl)
    obtain ⟨j2, hj2, h⟩ := joinE h
    refine f_join (fun a w' => ∃ x3 : Int, j2 x3 = some r ∧ Sx w [] nov [.own v1 26 1 rs1.length (rs1.flatMap RS.enc)] [(0, V), (3, v1), (4, iV x2), (5, iV x3)] 41 a w') ?_ ?_
    ·refine wp_block (f_loop (fun (m2 : Nat) a w' => ∃ x3 : Int, points_races_l2 Z x2 j2 m2 x3 = some r ∧ Sx w [] nov [.own v1 26 1 rs1.length (rs1.flatMap RS.enc)] [(0, V), (3, v1), (4, iV x2), (5, iV x3)] 41 a w') id (((Z.length : Int) - (W (x2 + 1))).toNat + 2) ⟨W (x2 + 1), h, S.nf [true] rfl (subR rfl)⟩ ?_)
     clear S h;rintro m2 a w3 ⟨x3, h, S⟩
     cases m2 with
     | zero => rw [points_races_l2.eq_1] at h;cases h
     | succ m2 =>
      rw [points_races_l2.eq_2] at h
      refine Fs (Fs (d_region [] ([]) Tryz.mixed S rfl (by kernel_rfl) ?_));clear S;intro w5 hk1 hsel S
      refine d_rest [0, 1, 2, 3, 4, 5, 6, 7, 8, 9, 10, 11, 12, 13, 14, 15, 16] hsel (by kernel_rfl) rfl ?_
      clear hsel
      refine s_lv S rfl (Rm (S.tm rfl)) rfl ?_;clear S;intro a S
      refine s_lv S rfl (Rm (S.tm rfl)) rfl ?_;clear S;intro a S
      refine s_lv S rfl (rn_lenT sl_26 (S.tm rfl) (slc_len Af)) rfl ?_;clear S;intro a S
      refine s_lv S rfl (rn_lss (S.tm rfl) (S.tm rfl)) rfl ?_;clear S;intro a S
      refine s_lv S rfl (Rm (S.tm rfl)) rfl ?_;clear S;intro a S
      obtain ⟨j3, hj3, h⟩ := joinE h
      refine s_cutm 12 (fun a w' => ∃ c1, j3 c1 = some r ∧ Keep [] w5 w' ∧ Sx w [] nov [.own v1 26 1 rs1.length (rs1.flatMap RS.enc)] [(0, V), (3, v1), (4, iV x2), (5, iV x3), (28, bV c1)] 41 a w') ?_ ?_
      ·rcases Bool.eq_false_or_eq_true (decide (x3 < (Z.length : Int))) with hb2 | hb2
       ·replace h := iteT h hb2
        refine s_want S rfl rfl rfl rfl hb2 (s_lv0 S (Rm (S.tm rfl)) rfl ?_);clear S;intro a S
        refine s_want S rfl rfl rfl rfl hb2 (s_lv0 S (Rm (S.tm rfl)) rfl ?_);clear S;intro a S
        refine s_want S rfl rfl rfl rfl hb2 ?_
        obtain ⟨hc1, h⟩ := chkE h
        obtain ⟨b1, o1, hm1, hr2⟩ := rn_indexT (a := a) (x := .tmp 17) (y := .tmp 18) (ty := 0) sl_26 Af (inB_get hc1).1 (inB_get hc1).2 (S.tm rfl) (S.tm rfl)
        refine s_lv0 S (hr2 _) rfl ?_;clear S;intro a S
        clear hr2
        refine s_want S rfl rfl rfl rfl hb2 (s_lv0 S (rn_fld fa_38_0 (S.tm rfl)) rfl ?_);clear S;intro a S
        refine s_want S rfl rfl rfl rfl hb2 (s_lv0 S (rn_ld Tryz.isAgg9 (off := o1) (o := 0) (S.tm rfl) (hm1.at (emb_le hψ S.emb0)) rfl) rfl ?_);clear S;intro a S
        refine s_want S rfl rfl rfl rfl hb2 (s_lv0 S (Rm (S.tm rfl)) rfl ?_);clear S;intro a S
        refine s_want S rfl rfl rfl rfl hb2 (s_lv0 S (Rm (S.tm rfl)) rfl ?_);clear S;intro a S
        refine s_want S rfl rfl rfl rfl hb2 ?_
        obtain ⟨hc2, h⟩ := chkE h
        obtain ⟨b2, o2, hm2, hr3⟩ := rn_indexT (a := a) (x := .tmp 22) (y := .tmp 23) (ty := 0) sl_26 Af (inB_get hc2).1 (inB_get hc2).2 (S.tm rfl) (S.tm rfl)
        refine s_lv0 S (hr3 _) rfl ?_;clear S;intro a S
        clear hr3
        refine s_want S rfl rfl rfl rfl hb2 (s_lv0 S (rn_fld fa_38_0 (S.tm rfl)) rfl ?_);clear S;intro a S
        refine s_want S rfl rfl rfl rfl hb2 (s_lv0 S (rn_ld Tryz.isAgg9 (off := o2) (o := 0) (S.tm rfl) (hm2.at (emb_le hψ S.emb0)) rfl) rfl ?_);clear S;intro a S
        refine s_want S rfl rfl rfl rfl hb2 (s_lv0 S (rn_seql (S.tm rfl) (S.tm rfl)) rfl ?_);clear S;intro a S
        refine s_lv S rfl (rn_and_t hb2 (S.tm rfl) (S.tm rfl)) rfl ?_;clear S;intro a S
        refine s_done ?_
        exact ⟨_, h, Keep.refl _ _, S.nf [true] rfl (subR rfl)⟩
       ·replace h := iteF h hb2
        iterate 11 (refine s_skip S rfl rfl rfl rfl (neq_f hb2) rfl ?_ rfl;clear S;intro a S)
        refine s_lv S rfl (rn_and_f true hb2 (S.tm rfl) rfl) rfl ?_;clear S;intro a S
        refine s_done ?_
        exact ⟨_, h, Keep.refl _ _, S.nf [true] rfl (subR rfl)⟩
      clear S h;rintro a w6 ⟨c1, h, hk2, S⟩;rw [hj3] at h;clear hj3 j3
      refine s_done ?_
      replace S := S.nk [.own v1 26 1 rs1.length (rs1.flatMap RS.enc)] [(0, V), (3, v1), (4, iV x2), (5, iV x3), (28, bV c1)] [true] rfl (subR rfl)
      refine Tn (f_cond (S.tm rfl) (fun hb3 => ?_) (fun hb3 => ?_))
      ·replace h := iteT h hb3
       refine wp_skip (Tn (wp_block (Fg (lv S (Rm (S.tm rfl)) rfl ?_))));clear S;intro a S
       refine lv S (rn_add (S.tm rfl) rfl) rfl ?_;clear S;intro a S
       refine lv S (Ra (S.tm rfl)) rfl ?_;clear S;intro a S
       refine Ld (blk_n (Tn ?_))
       exact ⟨m2, ⟨W (x3 + 1), h, S.nf [true] rfl ⟨rfl, rfl, rfl, rfl, trivial⟩⟩, Nat.lt_succ_self _⟩
      ·replace h := iteF h hb3
       refine wp_exit (then_x (then_x (x_same (Tn ?_))))
       exact ⟨x3, h, S.nf [true] rfl (subR rfl)⟩
    clear S h;rintro a w4 ⟨x3, h, S⟩;rw [hj2] at h;clear hj2 j2
    refine Tn (Fs (Fg (lv S (Rm (S.tm rfl)) rfl ?_)));clear S;intro a S
    iterate 4 (refine lv S (Rm (S.tm rfl)) rfl ?_;clear S;intro a S)
    obtain ⟨hc3, h⟩ := chkE h
    obtain ⟨v2, hs1, hr4⟩ := rn_cutT3 (y2 := .tmp 35) (a := a) (x := .tmp 32) (y := .tmp 33) (y' := .tmp 34) (ty := 26) sl_26 Af (S.tm rfl) (S.tm rfl) (S.tm rfl) (S.tm rfl) hc3
    refine lv S (hr4 _) rfl ?_;clear S;intro a S
    clear hr4
    refine l_buildSlice S Tryz.underlying96 Tryz.sizeOf26 Tryz.zeroValue26 rfl rfl (pv := [(0, v2)]) ⟨rfl, (S.tm rfl), trivial⟩ (cs := [v2]) (fill_slc hs1) rfl ?_;clear S;intro a w7 b3 hz1 hk3 S
    obtain ⟨hc4, h⟩ := chkE h
    have hr5 : All2 (rel_26 (join ψ nov)) (x1 ++ [cut Z x2 x3]) (rs1 ++ [⟨v2, SlcLen.one (slc_len hs1)⟩]) := All2.app hr1 (All2.cons (hs1.mono (le_join_left _ _)) All2.nil)
    refine l_appendT sl_96 RS.enc_ok S (S.tm rfl) (i := 1) rfl (S.tm rfl) (j := 0) rfl (ys := [⟨v2, SlcLen.one (slc_len hs1)⟩]) rfl rfl rfl rfl (by have := room_lt hc4;have := All2.len hr1;simp at this ⊢;omega) rfl ?_;clear S;intro v3 a w8 hk4 S
    refine lv S (Ra (S.tm rfl)) rfl ?_;clear S;intro a S
    refine Ld (Tn (Fg (lv S (Rm (S.tm rfl)) rfl ?_)));clear S;intro a S
    refine lv S (Ra (S.tm rfl)) rfl ?_;clear S;intro a S
    refine Ld (blk_n (Tn ?_))
    exact ⟨m1, ⟨(x1 ++ [cut Z x2 x3]), x3, v3, (rs1 ++ [⟨v2, SlcLen.one (slc_len hs1)⟩]), h, hr5, S.nf [false, true] rfl ⟨rfl, rfl, rfl, trivial⟩⟩, Nat.lt_succ_self _⟩
   ·replace h := iteF h hb1
    refine wp_exit (then_x (then_x (x_same (Tn ?_))))
    exact ⟨x1, v1, rs1, h, hr1, S.nf [true] rfl ⟨rfl, trivial⟩⟩
 clear S h;rintro a w2 ⟨x1, v1, rs1, h, hr1, S⟩;rw [hj1] at h;clear hj1 j1
 refine Tn (Fs (Fg (lv S (Rm (S.tm rfl)) rfl ?_)));clear S;intro a S
 refine lv S (Ra (S.tm rfl)) rfl ?_;clear S;intro a S
 refine Ld (Tn (wp_ret ?_))
 obtain ⟨φ1, hl1, hs2, S⟩ := S.freezeT (xs := rs1) (enc := RS.enc) (i := 0) rfl (fun _ h => by cases h)
 have hr6 := (rels_26 (all_mono hl1) hr1)
 have hs3 := (ownV_slcT RS.enc_ok hs2).mono (S.all_right hψ)
 replace S := S.nk [] [(2, v1), (3, v1), (40, v1)] [] rfl (subR rfl)
 obtain rfl := Option.some.inj h
 exact f_ret S Tryz.results71 rfl ⟨_, (hs3.mono (all_out hψ S.le_newer)), rels_26 (all_out hψ S.le_newer) hr6⟩
set_option maxRecDepth 20000 in
theorem points_checkAll_c1_ok (w : World) (Aq : GScored) (Am : Nat) (Ai : Value) (Ao : List GScored) (Cf : Slc (view w []) 5 Ai (Ao.map GScored.enc)) (Bx : (view w []) Am = some (.cells [Ai].toArray 26 (0, 0))) (r : Bool) (h : points_checkAll_c1 Aq Ao = some r) :
    Calls Tryz.prog 73 [.agg (GScored.enc Aq).toArray, .pointer (some ⟨Am, 0, none⟩)].toArray w (Ret w [] fun _ v _ => v = bV r) := by
 refine f_enter [] [] Tryz.func73 rfl Tryz.ntmps73 rfl (by simp) (by simp [fps]) (by simp [fps]) fun a S => ?_
 unfold points_checkAll_c1 at h
 replace S := S.nk [] [(0, .agg (GScored.enc Aq).toArray), (1, .pointer (some ⟨Am, 0, none⟩))] [] rfl (subR rfl)
 refine Fs (Fg (l_box S (S.tm rfl) (cs := (GScored.enc Aq)) rfl rfl ?_));clear S;intro a w1 b1 hz1 hk1 S
 refine lv S (Ra rfl) rfl ?_;clear S;intro a S
 refine Ld (Tn (Fs (d_region [] ([]) Tryz.mixed S rfl (by kernel_rfl) ?_)));clear S;intro w2 hk2 hsel S
 refine d_rest [0, 1, 2, 3, 4, 5, 6, 7] hsel (by kernel_rfl) rfl ?_
 clear hsel
 refine s_lv S rfl (rn_fld fa_38_4 (S.tm rfl)) rfl ?_;clear S;intro a S
 refine s_lv S rfl (rn_load Tryz.isAgg4 (S.tm rfl) (S.cell (i := 0) rfl rfl)) rfl ?_;clear S;intro a S
 refine s_lv S rfl (rn_ld Tryz.isAgg26 (off := 0) (o := 0) (S.tm rfl) ((mem_blk Bx).at S.emb0) rfl) rfl ?_;clear S;intro a S
 obtain ⟨hc1, h⟩ := chkE h
 obtain ⟨b2, o1, hm1, hr1⟩ := rn_indexT (a := a) (x := .tmp 6) (y := .const (iV 0)) (ty := 0) sl_26 Cf (inB_get hc1).1 (inB_get hc1).2 (S.tm rfl) rfl
 refine s_lv S rfl (hr1 _) rfl ?_;clear S;intro a S
 clear hr1
 refine s_lv S rfl (rn_fld fa_38_4 (S.tm rfl)) rfl ?_;clear S;intro a S
 refine s_lv S rfl (rn_ld Tryz.isAgg4 (off := o1) (o := 4) (S.tm rfl) (hm1.at S.emb0) rfl) rfl ?_;clear S;intro a S
 refine s_lv S rfl (rn_bneq Tryz.underlying4 (S.tm rfl) (S.tm rfl)) rfl ?_;clear S;intro a S
 refine s_lv S rfl (Ra (S.tm rfl)) rfl ?_;clear S;intro a S
 refine s_done ?_
 replace S := S.nk [] [(3, bV (!decide (Aq.Relay = ((nth Ao 0).Relay))))] [false] rfl ⟨rfl, trivial⟩
 refine Tn (wp_ret ?_)
 obtain rfl := Option.some.inj h
 exact f_ret S Tryz.results73 rfl rfl
theorem slices_IndexFunc_Scored_points_checkAll_c1_ok (w : World) (Ba : Value) (Ac : List GScored) (Bi : Slc (view w []) 5 Ba (Ac.map GScored.enc)) (Be : Nat) (Bm : Value) (Br : List GScored) (Bz : Slc (view w []) 5 Bm (Br.map GScored.enc)) (Bu : (view w []) Be = some (.cells [Bm].toArray 26 (0, 0))) (r : Int) (h : slices_IndexFunc_Scored_points_checkAll_c1 Ac Br = some r) :
    Calls Tryz.prog 105 [Ba, .func (.func 73) #[] #[.pointer (some ⟨Be, 0, none⟩)]].toArray w (Ret w [] fun _ v _ => v = iV r) := by
 refine f_enter [] [] Tryz.func105 rfl Tryz.ntmps105 rfl (by simp) (by simp [fps]) (by simp [fps]) fun a S => ?_
 unfold slices_IndexFunc_Scored_points_checkAll_c1 at h
 replace S := S.nk [] [(0, Ba), (1, .func (.func 73) #[] #[.pointer (some ⟨Be, 0, none⟩)])] [] rfl (subR rfl)
 refine Fs (Fg (lv S (Ra rfl) rfl ?_));clear S;intro a S
 refine Ld (Tn (Fs (Fs (Fg (lv S (Rm (S.tm rfl)) rfl ?_)))));clear S;intro a S
 refine lv S (rn_lenT sl_26 (S.tm rfl) (slc_len Bi)) rfl ?_;clear S;intro a S
 refine lv S (Rm rfl) rfl ?_;clear S;intro a S
 refine Ld (Tn ?_)
 replace S := S.nk [] [(0, Ba), (1, .func (.func 73) #[] #[.pointer (some ⟨Be, 0, none⟩)]), (7, iV (Ac.length : Int)), (8, iV 0)] [] rfl (subR rfl)
 obtain ⟨j1, hj1, h⟩ := joinE h
 refine f_join (fun a w' => j1 = some r ∧ Sx w [] nov [] [] 19 a w') ?_ ?_
 ·refine wp_block (f_loop (fun (ys1 : List GScored) a w' => ∃ i1 : Nat, (∃ dn, Ac = dn ++ ys1 ∧ dn.length = i1) ∧ slices_IndexFunc_Scored_points_checkAll_c1_l1 Br j1 ys1 i1 = some r ∧ Sx w [] nov [] [(0, Ba), (1, .func (.func 73) #[] #[.pointer (some ⟨Be, 0, none⟩)]), (7, iV (Ac.length : Int)), (8, iV (i1 : Int))] 19 a w') List.length Ac ⟨0, ⟨[], rfl, rfl⟩, h, S.nf [] rfl (subR rfl)⟩ ?_)
  clear S h;rintro ys1 a w1 ⟨i1, ⟨dn, hd1, hi1⟩, h, S⟩
  cases ys1 with
  | nil =>
   rw [slices_IndexFunc_Scored_points_checkAll_c1_l1.eq_1] at h
   refine Fs (Fg (lv S (rn_lss (S.tm rfl) (S.tm rfl)) rfl ?_));clear S;intro a S
   refine Ld ?_
   replace S := S.nk [] [(0, Ba), (1, .func (.func 73) #[] #[.pointer (some ⟨Be, 0, none⟩)]), (7, iV (Ac.length : Int)), (8, iV (i1 : Int)), (9, bV (decide ((i1 : Int) < (Ac.length : Int))))] [] rfl (subR rfl)
   refine Tn (Fs (wp_cond_false ((S.tm rfl).trans (congrArg Value.bool (rng_nil hd1 hi1))) (wp_exit (then_x (then_x (x_same ?_))))))
   refine Tn ?_
   exact ⟨h, S.nf [] rfl trivial⟩
  | cons y1 ys1 =>
   rw [slices_IndexFunc_Scored_points_checkAll_c1_l1.eq_2] at h
   refine Fs (Fg (lv S (rn_lss (S.tm rfl) (S.tm rfl)) rfl ?_));clear S;intro a S
   refine Ld ?_
   replace S := S.nk [] [(0, Ba), (1, .func (.func 73) #[] #[.pointer (some ⟨Be, 0, none⟩)]), (7, iV (Ac.length : Int)), (8, iV (i1 : Int)), (9, bV (decide ((i1 : Int) < (Ac.length : Int))))] [] rfl (subR rfl)
   refine Tn (Fs (wp_cond_true ((S.tm rfl).trans (congrArg Value.bool (rng_cons hd1 hi1))) (wp_skip (Tn (Fs (wp_block ?_))))))
   refine Fs (Fg (lv S (Rm (S.tm rfl)) rfl ?_));clear S;intro a S
   refine lv S (Ra (S.tm rfl)) rfl ?_;clear S;intro a S
   refine Ld (Tn (Fs (Fg (lv S (Rm (S.tm rfl)) rfl ?_))));clear S;intro a S
   refine lv S (Rm (S.tm rfl)) rfl ?_;clear S;intro a S
   refine lv S (Rm (S.tm rfl)) rfl ?_;clear S;intro a S
   obtain ⟨b1, o1, hm1, hr1⟩ := rn_indexT (a := a) (x := .tmp 12) (y := .tmp 13) (ty := 0) sl_26 Bi (get_mid hd1 hi1) rfl (S.tm rfl) (S.tm rfl)
   refine lv S (hr1 _) rfl ?_;clear S;intro a S
   clear hr1
   refine lv S (rn_ldA Tryz.isAgg38 Tryz.sizeOf38 (off := o1) (o := 0) (part := (GScored.enc y1)) rfl rfl (S.tm rfl) (hm1.at S.emb0)) rfl ?_;clear S;intro a S
   obtain ⟨r1, hr2, h⟩ := bindE h
   refine l_enter S (fun _ => run_callV (cap := [.pointer (some ⟨Be, 0, none⟩)]) (S.tm rfl) (vs := [.agg (GScored.enc y1).toArray]) ⟨(S.tm rfl), trivial⟩ Tryz.call73) (points_checkAll_c1_ok _ y1 Be Bm Br (Bz.mono (S.le_arg nil_sub)) ((S.le_arg nil_sub) _ _ Bu) _ hr2) rfl ?_;clear S;intro v1 a w3 hv1 hk1 hn1 S
   subst hv1
   refine Ld (Tn (f_cond (S.tm rfl) (fun hb1 => ?_) (fun hb1 => ?_)))
   ·replace h := iteT h hb1
    refine Fs (Fg (lv S (Rm (S.tm rfl)) rfl ?_));clear S;intro a S
    refine lv S (Ra (S.tm rfl)) rfl ?_;clear S;intro a S
    refine Ld ?_
    replace S := S.nk [] [(4, iV (i1 : Int))] [] rfl ⟨rfl, trivial⟩
    refine Tn (wp_ret (blk_r (then_r (then_r (blk_r (then_r ?_))))))
    refine then_r ?_
    obtain rfl := Option.some.inj h
    exact f_ret S Tryz.results105 rfl rfl
   ·replace h := iteF h hb1
    refine wp_skip (blk_n (Tn (Fg (lv S (rn_add (S.tm rfl) rfl) rfl ?_))));clear S;intro a S
    refine lv S (Rm (S.tm rfl)) rfl ?_;clear S;intro a S
    refine Ld (Tn ?_)
    exact ⟨ys1, ⟨i1 + 1, ⟨_, (hd1).trans (List.append_cons _ _ _), by simp [hi1]⟩, h, S.nf [] rfl ⟨rfl, rfl, rfl, (congrArg (fun z => some (Value.int .i64 z)) (rng_next hd1 hi1 (slc_max Bi))), trivial⟩⟩, Nat.lt_succ_self _⟩
 clear S h;rintro a w2 ⟨h, S⟩;rw [hj1] at h;clear hj1 j1
 refine Tn (Fs (Fg (lv S (Ra rfl) rfl ?_)));clear S;intro a S
 refine Ld (Tn (wp_ret ?_))
 obtain rfl := Option.some.inj h
 exact f_ret S Tryz.results105 rfl rfl
theorem slices_ContainsFunc_Scored_points_checkAll_c1_ok (w : World) (Ba : Value) (Ac : List GScored) (Bi : Slc (view w []) 5 Ba (Ac.map GScored.enc)) (Be : Nat) (Bm : Value) (Br : List GScored) (Bz : Slc (view w []) 5 Bm (Br.map GScored.enc)) (Bu : (view w []) Be = some (.cells [Bm].toArray 26 (0, 0))) (r : Bool) (h : slices_ContainsFunc_Scored_points_checkAll_c1 Ac Br = some r) :
    Calls Tryz.prog 72 [Ba, .func (.func 73) #[] #[.pointer (some ⟨Be, 0, none⟩)]].toArray w (Ret w [] fun _ v _ => v = bV r) := by
 refine f_enter [] [] Tryz.func72 rfl Tryz.ntmps72 rfl (by simp) (by simp [fps]) (by simp [fps]) fun a S => ?_
 unfold slices_ContainsFunc_Scored_points_checkAll_c1 at h
 replace S := S.nk [] [(0, Ba), (1, .func (.func 73) #[] #[.pointer (some ⟨Be, 0, none⟩)])] [] rfl (subR rfl)
 refine Fs (Fg (lv S (Ra rfl) rfl ?_));clear S;intro a S
 refine Ld (Tn (Fs (Fg (lv S (Rm (S.tm rfl)) rfl ?_))));clear S;intro a S
 refine lv S (Rm (S.tm rfl)) rfl ?_;clear S;intro a S
 obtain ⟨r1, hr1, h⟩ := bindE h
 refine l_enter S (fun _ => run_call (vs := [Ba, .func (.func 73) #[] #[.pointer (some ⟨Be, 0, none⟩)]]) ⟨(S.tm rfl), (S.tm rfl), trivial⟩ Tryz.call105) (slices_IndexFunc_Scored_points_checkAll_c1_ok _ Ba Ac (Bi.mono (S.le_arg nil_sub)) Be Bm Br (Bz.mono (S.le_arg nil_sub)) ((S.le_arg nil_sub) _ _ Bu) _ hr1) rfl ?_;clear S;intro v1 a w1 hv1 hk1 hn1 S
 subst hv1
 refine lv S (rn_geq (S.tm rfl) rfl) rfl ?_;clear S;intro a S
 refine lv S (Ra (S.tm rfl)) rfl ?_;clear S;intro a S
 refine Ld (Tn (wp_ret ?_))
 obtain rfl := Option.some.inj h
 exact f_ret S Tryz.results72 rfl rfl
end Go.Proofs.YtcnneeipmadakaaGreatDoor
