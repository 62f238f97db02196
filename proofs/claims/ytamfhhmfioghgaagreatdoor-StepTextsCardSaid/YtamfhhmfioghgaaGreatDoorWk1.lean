/- Each Go function computes its plain twin, by program. -/
import Derived.Test.YtamfhhmfioghgaaGreatDoorTab
import Derived.Test.YtamfhhmfioghgaaGreatDoorLay
import Derived.Test.YtamfhhmfioghgaaGreatDoorText
namespace Go.Proofs.YtamfhhmfioghgaaGreatDoor
open Go
theorem tumbmake_Below_ok (w : World) (Al : Int) (Aj : Int) (r : Int) (h : tumbmake_Below Al Aj = some r) :
    Calls Tryz.prog 50 [iV Al, iV Aj].toArray w (Ret w [] fun _ v _ => v = iV r) := by
 refine f_enter [] [] Tryz.func50 rfl Tryz.ntmps50 rfl (by simp) (by simp [fps]) (by simp [fps]) fun a S => ?_
 unfold tumbmake_Below at h
 replace S := S.nk [] [(0, iV Al), (1, iV Aj)] [] rfl (subR rfl)
 refine Fs (Fg (lv S (Ra rfl) rfl ?_));clear S;intro a S
 refine Ld (Tn (Fs (Fs (Fg (lv S (Rm (S.tm rfl)) rfl ?_)))));clear S;intro a S
 refine lv S (rn_lss (S.tm rfl) rfl) rfl ?_;clear S;intro a S
 refine Ld (Tn (f_cond (S.tm rfl) (fun hb1 => ?_) (fun hb1 => ?_)))
 ·replace h := iteT h hb1
  refine Fs (Fg (lv S (Ra rfl) rfl ?_));clear S;intro a S
  refine Ld (Tn (wp_ret (then_r ?_)))
  obtain rfl := Option.some.inj h
  exact f_ret S Tryz.results50 rfl rfl
 ·replace h := iteF h hb1
  refine wp_skip (Tn (Fs (Fg (lv S (Rm (S.tm rfl)) rfl ?_))));clear S;intro a S
  refine lv S (Rm (S.tm rfl)) rfl ?_;clear S;intro a S
  obtain ⟨hc1, h⟩ := chkE h
  refine lv S (rn_rem (S.tm rfl) (S.tm rfl) (ne0_of hc1)) rfl ?_;clear S;intro a S
  refine lv S (Ra (S.tm rfl)) rfl ?_;clear S;intro a S
  refine Ld (Tn (Fs (Fs (Fg (lv S (Rm (S.tm rfl)) rfl ?_)))));clear S;intro a S
  refine lv S (rn_lss (S.tm rfl) rfl) rfl ?_;clear S;intro a S
  refine Ld (Tn ?_)
  obtain ⟨j1, hj1, h⟩ := joinE h
  refine f_join (fun a w' => ∃ x1 : Int, j1 x1 = some r ∧ Sx w [] nov [] [(0, iV x1)] 16 a w') ?_ ?_
  ·refine f_cond (S.tm rfl) (fun hb2 => ?_) (fun hb2 => ?_)
   ·replace h := iteT h hb2
    refine Fg (lv S (Rm (S.tm rfl)) rfl ?_);clear S;intro a S
    refine lv S (Rm (S.tm rfl)) rfl ?_;clear S;intro a S
    refine lv S (rn_add (S.tm rfl) (S.tm rfl)) rfl ?_;clear S;intro a S
    refine lv S (Ra (S.tm rfl)) rfl ?_;clear S;intro a S
    refine Ld (Tn ?_)
    exact ⟨W ((Int.tmod Al Aj) + Aj), h, S.nf [] rfl ⟨rfl, trivial⟩⟩
   ·replace h := iteF h hb2
    refine wp_skip (Tn ?_)
    exact ⟨Int.tmod Al Aj, h, S.nf [] rfl ⟨rfl, trivial⟩⟩
  clear S h;rintro a w1 ⟨x1, h, S⟩;rw [hj1] at h;clear hj1 j1
  refine Tn (Fs (Fg (lv S (Rm (S.tm rfl)) rfl ?_)));clear S;intro a S
  refine lv S (Ra (S.tm rfl)) rfl ?_;clear S;intro a S
  refine Ld (Tn (wp_ret ?_))
  obtain rfl := Option.some.inj h
  exact f_ret S Tryz.results50 rfl rfl
set_option maxRecDepth 20000 in
theorem Stream_Next_ok (w : World) (O : Nat) (U : Value) (Ae : List Int) (Ad : Slc (view w [O]) 1 U (Ae.map eInt)) (Ab : Int) (Aw : (LEnt.blk O [U, iV Ab] 25).holds w) (Aj : Int) (r : Int × Int) (h : Stream_Next Ae Ab Aj = some r) :
    Calls Tryz.prog 17 [.pointer (some ⟨O, 0, none⟩), iV Aj].toArray w (Ret w [O] fun _ v w' => (LEnt.blk O [U, iV r.2] 25).holds w' ∧ v = iV r.1) := by
 refine f_enter [O] [.blk O [U, iV Ab] 25] Tryz.func17 rfl Tryz.ntmps17 rfl (fun e he => by simp only [List.mem_singleton] at he;subst he;exact Aw) (by simp [fps, LEnt.fp]) (by simp [fps, LEnt.fp]) fun a S => ?_
 unfold Stream_Next at h
 replace S := S.nk [.blk O [U, iV Ab] 25] [(0, .pointer (some ⟨O, 0, none⟩)), (1, iV Aj)] [true] rfl (subR rfl)
 refine Fs (Fg (lv S (Ra rfl) rfl ?_));clear S;intro a S
 refine Ld (Tn (Fs (Fg (lv S (Rm (S.tm rfl)) rfl ?_))));clear S;intro a S
 refine lv S (rn_nilCheck (S.tm rfl)) rfl ?_;clear S;intro a S
 refine lv S (rn_fld fa_25_1 (S.tm rfl)) rfl ?_;clear S;intro a S
 refine lv S (rn_load Tryz.isAgg3 (S.tm rfl) (S.cell (i := 0) rfl rfl)) rfl ?_;clear S;intro a S
 refine lv S (rn_add (S.tm rfl) rfl) rfl ?_;clear S;intro a S
 refine lv S (rn_nilCheck (S.tm rfl)) rfl ?_;clear S;intro a S
 refine lv S (rn_fld fa_25_1 (S.tm rfl)) rfl ?_;clear S;intro a S
 refine l_store S (S.tm rfl) (S.tm rfl) (i := 0) (off := 1) rfl Tryz.sizeOf3 (vs := [iV (W (Ab + 1))]) rfl rfl rfl rfl ?_;clear S;intro w1 hk1 S
 refine Ld (Tn (Fs (Fs (Fg (lv S (Rm (S.tm rfl)) rfl ?_)))));clear S;intro a S
 refine lv S (rn_nilCheck (S.tm rfl)) rfl ?_;clear S;intro a S
 refine lv S (rn_fld fa_25_0 (S.tm rfl)) rfl ?_;clear S;intro a S
 refine lv S (rn_load Tryz.isAgg22 (S.tm rfl) (S.cell (i := 0) rfl rfl)) rfl ?_;clear S;intro a S
 refine lv S (rn_lenT sl_22 (S.tm rfl) (slc_len Ad)) rfl ?_;clear S;intro a S
 refine lv S (rn_eql (S.tm rfl) rfl) rfl ?_;clear S;intro a S
 refine Ld ?_
 replace S := S.nk [.blk O [U, iV (W (Ab + 1))] 25] [(0, .pointer (some ⟨O, 0, none⟩)), (1, iV Aj), (19, bV (decide ((Ae.length : Int) = 0)))] [true] rfl (subR rfl)
 refine Tn (f_cond (S.tm rfl) (fun hb1 => ?_) (fun hb1 => ?_))
 ·replace h := iteT h hb1
  refine Fs (Fg (lv S (Rm (S.tm rfl)) rfl ?_));clear S;intro a S
  refine lv S (rn_nilCheck (S.tm rfl)) rfl ?_;clear S;intro a S
  refine lv S (rn_fld fa_25_1 (S.tm rfl)) rfl ?_;clear S;intro a S
  refine lv S (rn_load Tryz.isAgg3 (S.tm rfl) (S.cell (i := 0) rfl rfl)) rfl ?_;clear S;intro a S
  refine lv S (rn_mul (S.tm rfl) rfl) rfl ?_;clear S;intro a S
  refine lv S (Rm (S.tm rfl)) rfl ?_;clear S;intro a S
  obtain ⟨r1, hr1, h⟩ := bindE h
  refine l_enter S (fun _ => run_call (vs := [iV (W ((W (Ab + 1)) * 7919)), iV Aj]) ⟨(S.tm rfl), (S.tm rfl), trivial⟩ Tryz.call50) (tumbmake_Below_ok _ (W ((W (Ab + 1)) * 7919)) Aj _ hr1) rfl ?_;clear S;intro v1 a w2 hv1 hk2 hn1 S
  subst hv1
  refine lv S (Ra (S.tm rfl)) rfl ?_;clear S;intro a S
  refine Ld (Tn (wp_ret (then_r ?_)))
  obtain rfl := Option.some.inj h
  exact f_ret S Tryz.results17 rfl ⟨(S.holds _ (List.mem_of_getElem? (i := 0) rfl)), rfl⟩
 ·replace h := iteF h hb1
  refine wp_skip (Tn (Fs (d_region [] ([]) Tryz.mixed S rfl (by kernel_rfl) ?_)));clear S;intro w3 hk3 hsel S
  refine d_rest [0, 1, 2, 3, 4, 5, 6, 7, 8, 9, 10, 11] hsel (by kernel_rfl) rfl ?_
  clear hsel
  refine s_lv S rfl (Rm (S.tm rfl)) rfl ?_;clear S;intro a S
  refine s_lv S rfl (rn_nilCheck (S.tm rfl)) rfl ?_;clear S;intro a S
  refine s_lv S rfl (rn_fld fa_25_1 (S.tm rfl)) rfl ?_;clear S;intro a S
  refine s_lv S rfl (rn_load Tryz.isAgg3 (S.tm rfl) (S.cell (i := 0) rfl rfl)) rfl ?_;clear S;intro a S
  refine s_lv S rfl (rn_sub (S.tm rfl) rfl) rfl ?_;clear S;intro a S
  refine s_lv S rfl (Rm (S.tm rfl)) rfl ?_;clear S;intro a S
  refine s_lv S rfl (rn_nilCheck (S.tm rfl)) rfl ?_;clear S;intro a S
  refine s_lv S rfl (rn_fld fa_25_0 (S.tm rfl)) rfl ?_;clear S;intro a S
  refine s_lv S rfl (rn_load Tryz.isAgg22 (S.tm rfl) (S.cell (i := 0) rfl rfl)) rfl ?_;clear S;intro a S
  refine s_lv S rfl (rn_lenT sl_22 (S.tm rfl) (slc_len Ad)) rfl ?_;clear S;intro a S
  obtain ⟨hc1, h⟩ := chkE h
  refine s_lv S rfl (rn_rem (S.tm rfl) (S.tm rfl) (ne0_of hc1)) rfl ?_;clear S;intro a S
  refine s_lv S rfl (Ra (S.tm rfl)) rfl ?_;clear S;intro a S
  refine s_done ?_
  replace S := S.nk [.blk O [U, iV (W (Ab + 1))] 25] [(0, .pointer (some ⟨O, 0, none⟩)), (1, iV Aj), (5, iV (Int.tmod (W ((W (Ab + 1)) - 1)) (Ae.length : Int)))] [true] rfl (subR rfl)
  refine Tn (Fs (d_region [] ([]) Tryz.mixed S rfl (by kernel_rfl) ?_));clear S;intro w4 hk4 hsel S
  refine d_rest [0, 1, 2, 3, 4, 5, 6, 7, 8, 9, 10, 11] hsel (by kernel_rfl) rfl ?_
  clear hsel
  refine s_lv S rfl (Rm (S.tm rfl)) rfl ?_;clear S;intro a S
  refine s_lv S rfl (rn_nilCheck (S.tm rfl)) rfl ?_;clear S;intro a S
  refine s_lv S rfl (rn_fld fa_25_1 (S.tm rfl)) rfl ?_;clear S;intro a S
  refine s_lv S rfl (rn_load Tryz.isAgg3 (S.tm rfl) (S.cell (i := 0) rfl rfl)) rfl ?_;clear S;intro a S
  refine s_lv S rfl (rn_sub (S.tm rfl) rfl) rfl ?_;clear S;intro a S
  refine s_lv S rfl (Rm (S.tm rfl)) rfl ?_;clear S;intro a S
  refine s_lv S rfl (rn_nilCheck (S.tm rfl)) rfl ?_;clear S;intro a S
  refine s_lv S rfl (rn_fld fa_25_0 (S.tm rfl)) rfl ?_;clear S;intro a S
  refine s_lv S rfl (rn_load Tryz.isAgg22 (S.tm rfl) (S.cell (i := 0) rfl rfl)) rfl ?_;clear S;intro a S
  refine s_lv S rfl (rn_lenT sl_22 (S.tm rfl) (slc_len Ad)) rfl ?_;clear S;intro a S
  obtain ⟨hc2, h⟩ := chkE h
  refine s_lv S rfl (rn_quo (S.tm rfl) (S.tm rfl) (ne0_of hc2)) rfl ?_;clear S;intro a S
  refine s_lv S rfl (Ra (S.tm rfl)) rfl ?_;clear S;intro a S
  refine s_done ?_
  replace S := S.nk [.blk O [U, iV (W (Ab + 1))] 25] [(0, .pointer (some ⟨O, 0, none⟩)), (1, iV Aj), (5, iV (Int.tmod (W ((W (Ab + 1)) - 1)) (Ae.length : Int))), (6, iV (W (Int.tdiv (W ((W (Ab + 1)) - 1)) (Ae.length : Int))))] [true] rfl (subR rfl)
  refine Tn (Fs (Fg (lv S (Rm (S.tm rfl)) rfl ?_)));clear S;intro a S
  refine lv S (rn_nilCheck (S.tm rfl)) rfl ?_;clear S;intro a S
  refine lv S (rn_fld fa_25_0 (S.tm rfl)) rfl ?_;clear S;intro a S
  refine lv S (rn_load Tryz.isAgg22 (S.tm rfl) (S.cell (i := 0) rfl rfl)) rfl ?_;clear S;intro a S
  refine lv S (Rm (S.tm rfl)) rfl ?_;clear S;intro a S
  obtain ⟨hc3, h⟩ := chkE h
  obtain ⟨b1, o1, hm1, hr2⟩ := rn_indexT (a := a) (x := .tmp 52) (y := .tmp 53) (ty := 0) sl_22 Ad (inB_get hc3).1 (inB_get hc3).2 (S.tm rfl) (S.tm rfl)
  refine lv S (hr2 _) rfl ?_;clear S;intro a S
  clear hr2
  refine lv S (rn_ld Tryz.isAgg3 (off := o1) (o := 0) (S.tm rfl) (hm1.at S.emb0) rfl) rfl ?_;clear S;intro a S
  obtain ⟨r2, hr3, h⟩ := bindE h
  refine l_enter S (fun _ => run_call (vs := [iV (nth Ae (Int.tmod (W ((W (Ab + 1)) - 1)) (Ae.length : Int))), iV 1073741824]) ⟨(S.tm rfl), rfl, trivial⟩ Tryz.call50) (tumbmake_Below_ok _ (nth Ae (Int.tmod (W ((W (Ab + 1)) - 1)) (Ae.length : Int))) 1073741824 _ hr3) rfl ?_;clear S;intro v2 a w5 hv2 hk5 hn2 S
  subst hv2
  refine lv S (Rm (S.tm rfl)) rfl ?_;clear S;intro a S
  refine lv S (Rm (S.tm rfl)) rfl ?_;clear S;intro a S
  refine lv S (rn_add rfl (S.tm rfl)) rfl ?_;clear S;intro a S
  refine lv S (rn_mul (S.tm rfl) (S.tm rfl)) rfl ?_;clear S;intro a S
  refine lv S (rn_add (S.tm rfl) (S.tm rfl)) rfl ?_;clear S;intro a S
  refine lv S (Rm (S.tm rfl)) rfl ?_;clear S;intro a S
  obtain ⟨r3, hr4, h⟩ := bindE h
  refine l_enter S (fun _ => run_call (vs := [iV (W (r2 + (W ((W (Int.tdiv (W ((W (Ab + 1)) - 1)) (Ae.length : Int))) * (W (7919 + (Int.tmod (W ((W (Ab + 1)) - 1)) (Ae.length : Int)))))))), iV Aj]) ⟨(S.tm rfl), (S.tm rfl), trivial⟩ Tryz.call50) (tumbmake_Below_ok _ (W (r2 + (W ((W (Int.tdiv (W ((W (Ab + 1)) - 1)) (Ae.length : Int))) * (W (7919 + (Int.tmod (W ((W (Ab + 1)) - 1)) (Ae.length : Int)))))))) Aj _ hr4) rfl ?_;clear S;intro v3 a w6 hv3 hk6 hn3 S
  subst hv3
  refine lv S (Ra (S.tm rfl)) rfl ?_;clear S;intro a S
  refine Ld ?_
  replace S := S.nk [.blk O [U, iV (W (Ab + 1))] 25] [(4, iV r3)] [true] rfl ⟨rfl, trivial⟩
  refine Tn (wp_ret ?_)
  obtain rfl := Option.some.inj h
  exact f_ret S Tryz.results17 rfl ⟨(S.holds _ (List.mem_of_getElem? (i := 0) rfl)), rfl⟩
theorem Stream_Range_ok (w : World) (O : Nat) (U : Value) (Ae : List Int) (Ad : Slc (view w [O]) 1 U (Ae.map eInt)) (Ab : Int) (Aw : (LEnt.blk O [U, iV Ab] 25).holds w) (Ay : Int) (Au : Int) (r : Int × Int) (h : Stream_Range Ae Ab Ay Au = some r) :
    Calls Tryz.prog 5 [.pointer (some ⟨O, 0, none⟩), iV Ay, iV Au].toArray w (Ret w [O] fun _ v w' => (LEnt.blk O [U, iV r.2] 25).holds w' ∧ v = iV r.1) := by
 refine f_enter [O] [.blk O [U, iV Ab] 25] Tryz.func5 rfl Tryz.ntmps5 rfl (fun e he => by simp only [List.mem_singleton] at he;subst he;exact Aw) (by simp [fps, LEnt.fp]) (by simp [fps, LEnt.fp]) fun a S => ?_
 unfold Stream_Range at h
 replace S := S.nk [.blk O [U, iV Ab] 25] [(0, .pointer (some ⟨O, 0, none⟩)), (1, iV Ay), (2, iV Au)] [true] rfl (subR rfl)
 refine Fs (Fg (lv S (Ra rfl) rfl ?_));clear S;intro a S
 refine Ld (Tn (Fs (Fs (Fg (lv S (Rm (S.tm rfl)) rfl ?_)))));clear S;intro a S
 refine lv S (Rm (S.tm rfl)) rfl ?_;clear S;intro a S
 refine lv S (rn_lss (S.tm rfl) (S.tm rfl)) rfl ?_;clear S;intro a S
 refine Ld (Tn (f_cond (S.tm rfl) (fun hb1 => ?_) (fun hb1 => ?_)))
 ·replace h := iteT h hb1
  refine Fs (Fg (lv S (Rm (S.tm rfl)) rfl ?_));clear S;intro a S
  refine lv S (Ra (S.tm rfl)) rfl ?_;clear S;intro a S
  refine Ld (Tn (wp_ret (then_r ?_)))
  obtain rfl := Option.some.inj h
  exact f_ret S Tryz.results5 rfl ⟨(S.holds _ (List.mem_of_getElem? (i := 0) rfl)), rfl⟩
 ·replace h := iteF h hb1
  refine wp_skip (Tn (Fs (Fg (lv S (Rm (S.tm rfl)) rfl ?_))));clear S;intro a S
  iterate 3 (refine lv S (Rm (S.tm rfl)) rfl ?_;clear S;intro a S)
  refine lv S (rn_sub (S.tm rfl) (S.tm rfl)) rfl ?_;clear S;intro a S
  refine lv S (rn_add (S.tm rfl) rfl) rfl ?_;clear S;intro a S
  obtain ⟨r1, hr1, h⟩ := bindE h
  refine l_enter1 0 S (b := O) rfl rfl (fun _ => .blk O [U, iV r1.2] 25) (fun _ => run_call (vs := [.pointer (some ⟨O, 0, none⟩), iV (W ((W (Au - Ay)) + 1))]) ⟨(S.tm rfl), (S.tm rfl), trivial⟩ Tryz.call17) (Stream_Next_ok _ O U Ae (Ad.mono (S.le_arg (fp_sub (i := 0) (e := .blk O [U, iV Ab] 25) rfl))) Ab (S.holds _ (List.mem_of_getElem? (i := 0) rfl)) (W ((W (Au - Ay)) + 1)) _ hr1) rfl (fun _ _ _ h => ⟨h.1, fun _ hc => by cases hc;rfl⟩) ?_;clear S;intro v1 a w1 hv1 hk1 hn1 S
  replace hv1 := hv1.2
  subst hv1
  refine lv S (rn_add (S.tm rfl) (S.tm rfl)) rfl ?_;clear S;intro a S
  refine lv S (Ra (S.tm rfl)) rfl ?_;clear S;intro a S
  refine Ld ?_
  replace S := S.nk [.blk O [U, iV r1.2] 25] [(6, iV (W (Ay + r1.1)))] [true] rfl ⟨rfl, trivial⟩
  refine Tn (wp_ret ?_)
  obtain rfl := Option.some.inj h
  exact f_ret S Tryz.results5 rfl ⟨(S.holds _ (List.mem_of_getElem? (i := 0) rfl)), rfl⟩
theorem Stream_Pick_ok (w : World) (O : Nat) (U : Value) (Ae : List Int) (Ad : Slc (view w [O]) 1 U (Ae.map eInt)) (Ab : Int) (Aw : (LEnt.blk O [U, iV Ab] 25).holds w) (V : Value) (Ac : List Int) (Ag : Slc (view w [O]) 1 V (Ac.map eInt)) (r : Int × Int) (h : Stream_Pick Ae Ab Ac = some r) :
    Calls Tryz.prog 14 [.pointer (some ⟨O, 0, none⟩), V].toArray w (Ret w [O] fun _ v w' => (LEnt.blk O [U, iV r.2] 25).holds w' ∧ v = iV r.1) := by
 refine f_enter [O] [.blk O [U, iV Ab] 25] Tryz.func14 rfl Tryz.ntmps14 rfl (fun e he => by simp only [List.mem_singleton] at he;subst he;exact Aw) (by simp [fps, LEnt.fp]) (by simp [fps, LEnt.fp]) fun a S => ?_
 unfold Stream_Pick at h
 replace S := S.nk [.blk O [U, iV Ab] 25] [(0, .pointer (some ⟨O, 0, none⟩)), (1, V)] [true] rfl (subR rfl)
 refine Fs (Fg (lv S (Ra rfl) rfl ?_));clear S;intro a S
 refine Ld (Tn (Fs (Fg (lv S (Rm (S.tm rfl)) rfl ?_))));clear S;intro a S
 refine lv S (Rm (S.tm rfl)) rfl ?_;clear S;intro a S
 refine lv S (Rm (S.tm rfl)) rfl ?_;clear S;intro a S
 refine lv S (rn_lenT sl_22 (S.tm rfl) (slc_len Ag)) rfl ?_;clear S;intro a S
 obtain ⟨r1, hr1, h⟩ := bindE h
 refine l_enter1 0 S (b := O) rfl rfl (fun _ => .blk O [U, iV r1.2] 25) (fun _ => run_call (vs := [.pointer (some ⟨O, 0, none⟩), iV (Ac.length : Int)]) ⟨(S.tm rfl), (S.tm rfl), trivial⟩ Tryz.call17) (Stream_Next_ok _ O U Ae (Ad.mono (S.le_arg (fp_sub (i := 0) (e := .blk O [U, iV Ab] 25) rfl))) Ab (S.holds _ (List.mem_of_getElem? (i := 0) rfl)) (Ac.length : Int) _ hr1) rfl (fun _ _ _ h => ⟨h.1, fun _ hc => by cases hc;rfl⟩) ?_;clear S;intro v1 a w1 hv1 hk1 hn1 S
 replace hv1 := hv1.2
 subst hv1
 obtain ⟨hc1, h⟩ := chkE h
 obtain ⟨b1, o1, hm1, hr2⟩ := rn_indexT (a := a) (x := .tmp 5) (y := .tmp 9) (ty := 0) sl_22 Ag (inB_get hc1).1 (inB_get hc1).2 (S.tm rfl) (S.tm rfl)
 refine lv S (hr2 _) rfl ?_;clear S;intro a S
 clear hr2
 refine lv S (rn_ld Tryz.isAgg3 (off := o1) (o := 0) (S.tm rfl) (hm1.at S.emb0) rfl) rfl ?_;clear S;intro a S
 refine lv S (Ra (S.tm rfl)) rfl ?_;clear S;intro a S
 refine Ld (Tn (wp_ret ?_))
 obtain rfl := Option.some.inj h
 exact f_ret S Tryz.results14 rfl ⟨(S.holds _ (List.mem_of_getElem? (i := 0) rfl)), rfl⟩
theorem Stream_Some_ok (w : World) (O : Nat) (U : Value) (Ae : List Int) (Ad : Slc (view w [O]) 1 U (Ae.map eInt)) (Ab : Int) (Aw : (LEnt.blk O [U, iV Ab] 25).holds w) (V : Value) (Ac : List ByteArray) (Ag : Slc (view w [O]) 1 V (Ac.map eStr)) (r : ByteArray × Int) (h : Stream_Some Ae Ab Ac = some r) :
    Calls Tryz.prog 19 [.pointer (some ⟨O, 0, none⟩), V].toArray w (Ret w [O] fun _ v w' => (LEnt.blk O [U, iV r.2] 25).holds w' ∧ v = sV r.1) := by
 refine f_enter [O] [.blk O [U, iV Ab] 25] Tryz.func19 rfl Tryz.ntmps19 rfl (fun e he => by simp only [List.mem_singleton] at he;subst he;exact Aw) (by simp [fps, LEnt.fp]) (by simp [fps, LEnt.fp]) fun a S => ?_
 unfold Stream_Some at h
 replace S := S.nk [.blk O [U, iV Ab] 25] [(0, .pointer (some ⟨O, 0, none⟩)), (1, V)] [true] rfl (subR rfl)
 refine Fs (Fg (lv S (Ra rfl) rfl ?_));clear S;intro a S
 refine Ld (Tn (Fs (Fg (lv S (Rm (S.tm rfl)) rfl ?_))));clear S;intro a S
 refine lv S (Rm (S.tm rfl)) rfl ?_;clear S;intro a S
 refine lv S (Rm (S.tm rfl)) rfl ?_;clear S;intro a S
 refine lv S (rn_lenT sl_57 (S.tm rfl) (slc_len Ag)) rfl ?_;clear S;intro a S
 obtain ⟨r1, hr1, h⟩ := bindE h
 refine l_enter1 0 S (b := O) rfl rfl (fun _ => .blk O [U, iV r1.2] 25) (fun _ => run_call (vs := [.pointer (some ⟨O, 0, none⟩), iV (Ac.length : Int)]) ⟨(S.tm rfl), (S.tm rfl), trivial⟩ Tryz.call17) (Stream_Next_ok _ O U Ae (Ad.mono (S.le_arg (fp_sub (i := 0) (e := .blk O [U, iV Ab] 25) rfl))) Ab (S.holds _ (List.mem_of_getElem? (i := 0) rfl)) (Ac.length : Int) _ hr1) rfl (fun _ _ _ h => ⟨h.1, fun _ hc => by cases hc;rfl⟩) ?_;clear S;intro v1 a w1 hv1 hk1 hn1 S
 replace hv1 := hv1.2
 subst hv1
 obtain ⟨hc1, h⟩ := chkE h
 obtain ⟨b1, o1, hm1, hr2⟩ := rn_indexT (a := a) (x := .tmp 5) (y := .tmp 9) (ty := 0) sl_57 Ag (inB_get hc1).1 (inB_get hc1).2 (S.tm rfl) (S.tm rfl)
 refine lv S (hr2 _) rfl ?_;clear S;intro a S
 clear hr2
 refine lv S (rn_ld Tryz.isAgg9 (off := o1) (o := 0) (S.tm rfl) (hm1.at S.emb0) rfl) rfl ?_;clear S;intro a S
 refine lv S (Ra (S.tm rfl)) rfl ?_;clear S;intro a S
 refine Ld (Tn (wp_ret ?_))
 obtain rfl := Option.some.inj h
 exact f_ret S Tryz.results19 rfl ⟨(S.holds _ (List.mem_of_getElem? (i := 0) rfl)), rfl⟩
theorem Stream_SwumStep_ok (w : World) (O : Nat) (U : Value) (Ae : List Int) (Ad : Slc (view w [O]) 1 U (Ae.map eInt)) (Ab : Int) (Aw : (LEnt.blk O [U, iV Ab] 25).holds w) (Bl : Int) (r : GStep × Int) (h : Stream_SwumStep Ae Ab Bl = some r) :
    Calls Tryz.prog 15 [.pointer (some ⟨O, 0, none⟩), iV Bl].toArray w (Ret w [O] fun _ v w' => (LEnt.blk O [U, iV r.2] 25).holds w' ∧ v = .agg (GStep.enc r.1).toArray) := by
 refine f_enter [O] [.blk O [U, iV Ab] 25] Tryz.func15 rfl Tryz.ntmps15 rfl (fun e he => by simp only [List.mem_singleton] at he;subst he;exact Aw) (by simp [fps, LEnt.fp]) (by simp [fps, LEnt.fp]) fun a S => ?_
 unfold Stream_SwumStep at h
 replace S := S.nk [.blk O [U, iV Ab] 25] [(0, .pointer (some ⟨O, 0, none⟩)), (1, iV Bl)] [true] rfl (subR rfl)
 refine Fs (Fg (l_alloc S Tryz.zeroValue39 (cs := [iV 0, iV 0, sV k_empty, sV k_empty, sV k_empty, sV k_empty, iV 0, iV 0]) rfl rfl ?_));clear S;intro a w1 b1 hz1 hk1 S
 refine Ld (Tn (Fs (Fg (lv S (Rm (S.tm rfl)) rfl ?_))));clear S;intro a S
 refine lv S (Rm (S.tm rfl)) rfl ?_;clear S;intro a S
 refine l_buildSlice S Tryz.underlying57 Tryz.sizeOf9 Tryz.zeroValue9 rfl rfl (pv := [(0, sV k_ia), (1, sV k_ib), (2, sV k_ic), (3, sV k_id), (4, sV k_ie), (5, sV k_if)]) ⟨rfl, rfl, rfl, rfl, rfl, rfl, rfl, rfl, rfl, rfl, rfl, rfl, trivial⟩ (cs := [sV k_ia, sV k_ib, sV k_ic, sV k_id, sV k_ie, sV k_if]) (by kernel_rfl) rfl ?_;clear S;intro a w2 b2 hz2 hk2 S
 obtain ⟨r1, hr1, h⟩ := bindE h
 refine l_enter1 2 S (b := O) rfl rfl (fun _ => .blk O [U, iV r1.2] 25) (fun _ => run_call (vs := [.pointer (some ⟨O, 0, none⟩), .slice (some ⟨b2, 0, none⟩) 6 6]) ⟨(S.tm rfl), (S.tm rfl), trivial⟩ Tryz.call19) (Stream_Some_ok _ O U Ae (Ad.mono (S.le_arg (fp_sub (i := 2) (e := .blk O [U, iV Ab] 25) rfl))) Ab (S.holds _ (List.mem_of_getElem? (i := 2) rfl)) (.slice (some ⟨b2, 0, none⟩) 6 6) [k_ia, k_ib, k_ic, k_id, k_ie, k_if] (lit_slcT enc_str S (i := 0) rfl rfl rfl rfl ((ne_fp (i := 2) (j := 0) (e := .blk O [U, iV Ab] 25) (e' := .blk b2 [sV k_ia, sV k_ib, sV k_ic, sV k_id, sV k_ie, sV k_if] 9) S rfl rfl rfl) _ rfl)) _ hr1) rfl (fun _ _ _ h => ⟨h.1, fun _ hc => by cases hc;rfl⟩) ?_;clear S;intro v1 a w3 hv1 hk3 hn1 S
 replace hv1 := hv1.2
 subst hv1
 refine lv S (Rm (S.tm rfl)) rfl ?_;clear S;intro a S
 refine l_buildSlice S Tryz.underlying57 Tryz.sizeOf9 Tryz.zeroValue9 rfl rfl (pv := [(0, sV k_ann), (1, sV k_bea)]) ⟨rfl, rfl, rfl, rfl, trivial⟩ (cs := [sV k_ann, sV k_bea]) (by kernel_rfl) rfl ?_;clear S;intro a w4 b3 hz3 hk4 S
 obtain ⟨r2, hr2, h⟩ := bindE h
 refine l_enter1 3 S (b := O) rfl rfl (fun _ => .blk O [U, iV r2.2] 25) (fun _ => run_call (vs := [.pointer (some ⟨O, 0, none⟩), .slice (some ⟨b3, 0, none⟩) 2 2]) ⟨(S.tm rfl), (S.tm rfl), trivial⟩ Tryz.call19) (Stream_Some_ok _ O U Ae (Ad.mono (S.le_arg (fp_sub (i := 3) (e := .blk O [U, iV r1.2] 25) rfl))) r1.2 (S.holds _ (List.mem_of_getElem? (i := 3) rfl)) (.slice (some ⟨b3, 0, none⟩) 2 2) [k_ann, k_bea] (lit_slcT enc_str S (i := 0) rfl rfl rfl rfl ((ne_fp (i := 3) (j := 0) (e := .blk O [U, iV r1.2] 25) (e' := .blk b3 [sV k_ann, sV k_bea] 9) S rfl rfl rfl) _ rfl)) _ hr2) rfl (fun _ _ _ h => ⟨h.1, fun _ hc => by cases hc;rfl⟩) ?_;clear S;intro v2 a w5 hv2 hk5 hn2 S
 replace hv2 := hv2.2
 subst hv2
 refine lv S (Rm (S.tm rfl)) rfl ?_;clear S;intro a S
 refine l_buildSlice S Tryz.underlying57 Tryz.sizeOf9 Tryz.zeroValue9 rfl rfl (pv := [(0, sV k_blue), (1, sV k_red), (2, sV k_empty)]) ⟨rfl, rfl, rfl, rfl, rfl, rfl, trivial⟩ (cs := [sV k_blue, sV k_red, sV k_empty]) (by kernel_rfl) rfl ?_;clear S;intro a w6 b4 hz4 hk6 S
 obtain ⟨r3, hr3, h⟩ := bindE h
 refine l_enter1 4 S (b := O) rfl rfl (fun _ => .blk O [U, iV r3.2] 25) (fun _ => run_call (vs := [.pointer (some ⟨O, 0, none⟩), .slice (some ⟨b4, 0, none⟩) 3 3]) ⟨(S.tm rfl), (S.tm rfl), trivial⟩ Tryz.call19) (Stream_Some_ok _ O U Ae (Ad.mono (S.le_arg (fp_sub (i := 4) (e := .blk O [U, iV r2.2] 25) rfl))) r2.2 (S.holds _ (List.mem_of_getElem? (i := 4) rfl)) (.slice (some ⟨b4, 0, none⟩) 3 3) [k_blue, k_red, k_empty] (lit_slcT enc_str S (i := 0) rfl rfl rfl rfl ((ne_fp (i := 4) (j := 0) (e := .blk O [U, iV r2.2] 25) (e' := .blk b4 [sV k_blue, sV k_red, sV k_empty] 9) S rfl rfl rfl) _ rfl)) _ hr3) rfl (fun _ _ _ h => ⟨h.1, fun _ hc => by cases hc;rfl⟩) ?_;clear S;intro v3 a w7 hv3 hk7 hn3 S
 replace hv3 := hv3.2
 subst hv3
 refine lv S (Rm (S.tm rfl)) rfl ?_;clear S;intro a S
 refine l_buildSlice S Tryz.underlying57 Tryz.sizeOf9 Tryz.zeroValue9 rfl rfl (pv := [(0, sV k_ra), (1, sV k_ra), (2, sV k_rb)]) ⟨rfl, rfl, rfl, rfl, rfl, rfl, trivial⟩ (cs := [sV k_ra, sV k_ra, sV k_rb]) (by kernel_rfl) rfl ?_;clear S;intro a w8 b5 hz5 hk8 S
 obtain ⟨r4, hr4, h⟩ := bindE h
 refine l_enter1 5 S (b := O) rfl rfl (fun _ => .blk O [U, iV r4.2] 25) (fun _ => run_call (vs := [.pointer (some ⟨O, 0, none⟩), .slice (some ⟨b5, 0, none⟩) 3 3]) ⟨(S.tm rfl), (S.tm rfl), trivial⟩ Tryz.call19) (Stream_Some_ok _ O U Ae (Ad.mono (S.le_arg (fp_sub (i := 5) (e := .blk O [U, iV r3.2] 25) rfl))) r3.2 (S.holds _ (List.mem_of_getElem? (i := 5) rfl)) (.slice (some ⟨b5, 0, none⟩) 3 3) [k_ra, k_ra, k_rb] (lit_slcT enc_str S (i := 0) rfl rfl rfl rfl ((ne_fp (i := 5) (j := 0) (e := .blk O [U, iV r3.2] 25) (e' := .blk b5 [sV k_ra, sV k_ra, sV k_rb] 9) S rfl rfl rfl) _ rfl)) _ hr4) rfl (fun _ _ _ h => ⟨h.1, fun _ hc => by cases hc;rfl⟩) ?_;clear S;intro v4 a w9 hv4 hk9 hn4 S
 replace hv4 := hv4.2
 subst hv4
 refine lv S (Rm (S.tm rfl)) rfl ?_;clear S;intro a S
 refine l_buildSlice S Tryz.underlying22 Tryz.sizeOf3 Tryz.zeroValue3 rfl rfl (pv := [(0, iV 9), (1, iV 10), (2, iV 14), (3, iV 15), (4, iV 20)]) ⟨rfl, rfl, rfl, rfl, rfl, rfl, rfl, rfl, rfl, rfl, trivial⟩ (cs := [iV 9, iV 10, iV 14, iV 15, iV 20]) (by kernel_rfl) rfl ?_;clear S;intro a w10 b6 hz6 hk10 S
 obtain ⟨r5, hr5, h⟩ := bindE h
 refine l_enter1 6 S (b := O) rfl rfl (fun _ => .blk O [U, iV r5.2] 25) (fun _ => run_call (vs := [.pointer (some ⟨O, 0, none⟩), .slice (some ⟨b6, 0, none⟩) 5 5]) ⟨(S.tm rfl), (S.tm rfl), trivial⟩ Tryz.call14) (Stream_Pick_ok _ O U Ae (Ad.mono (S.le_arg (fp_sub (i := 6) (e := .blk O [U, iV r4.2] 25) rfl))) r4.2 (S.holds _ (List.mem_of_getElem? (i := 6) rfl)) (.slice (some ⟨b6, 0, none⟩) 5 5) [9, 10, 14, 15, 20] (lit_slcT enc_int S (i := 0) rfl rfl rfl rfl ((ne_fp (i := 6) (j := 0) (e := .blk O [U, iV r4.2] 25) (e' := .blk b6 [iV 9, iV 10, iV 14, iV 15, iV 20] 3) S rfl rfl rfl) _ rfl)) _ hr5) rfl (fun _ _ _ h => ⟨h.1, fun _ hc => by cases hc;rfl⟩) ?_;clear S;intro v5 a w11 hv5 hk11 hn5 S
 replace hv5 := hv5.2
 subst hv5
 refine lv S (Rm (S.tm rfl)) rfl ?_;clear S;intro a S
 refine l_buildSlice S Tryz.underlying22 Tryz.sizeOf3 Tryz.zeroValue3 rfl rfl (pv := [(0, iV 95), (1, iV 96), (2, iV 97), (3, iV 100), (4, iV 1), (5, iV 2)]) ⟨rfl, rfl, rfl, rfl, rfl, rfl, rfl, rfl, rfl, rfl, rfl, rfl, trivial⟩ (cs := [iV 95, iV 96, iV 97, iV 100, iV 1, iV 2]) (by kernel_rfl) rfl ?_;clear S;intro a w12 b7 hz7 hk12 S
 obtain ⟨r6, hr6, h⟩ := bindE h
 refine l_enter1 7 S (b := O) rfl rfl (fun _ => .blk O [U, iV r6.2] 25) (fun _ => run_call (vs := [.pointer (some ⟨O, 0, none⟩), .slice (some ⟨b7, 0, none⟩) 6 6]) ⟨(S.tm rfl), (S.tm rfl), trivial⟩ Tryz.call14) (Stream_Pick_ok _ O U Ae (Ad.mono (S.le_arg (fp_sub (i := 7) (e := .blk O [U, iV r5.2] 25) rfl))) r5.2 (S.holds _ (List.mem_of_getElem? (i := 7) rfl)) (.slice (some ⟨b7, 0, none⟩) 6 6) [95, 96, 97, 100, 1, 2] (lit_slcT enc_int S (i := 0) rfl rfl rfl rfl ((ne_fp (i := 7) (j := 0) (e := .blk O [U, iV r5.2] 25) (e' := .blk b7 [iV 95, iV 96, iV 97, iV 100, iV 1, iV 2] 3) S rfl rfl rfl) _ rfl)) _ hr6) rfl (fun _ _ _ h => ⟨h.1, fun _ hc => by cases hc;rfl⟩) ?_;clear S;intro v6 a w13 hv6 hk13 hn6 S
 replace hv6 := hv6.2
 subst hv6
 refine lv S (rn_bld bt_39 (pv := [(0, iV Bl), (1, iV 1), (2, sV r1.1), (3, sV r2.1), (4, sV r3.1), (5, sV r4.1), (6, iV r5.1), (7, iV r6.1)]) ⟨rfl, (S.tm rfl), rfl, rfl, rfl, (S.tm rfl), rfl, (S.tm rfl), rfl, (S.tm rfl), rfl, (S.tm rfl), rfl, (S.tm rfl), rfl, (S.tm rfl), trivial⟩ (cs := [iV Bl, iV 1, sV r1.1, sV r2.1, sV r3.1, sV r4.1, iV r5.1, iV r6.1]) (by kernel_rfl)) rfl ?_;clear S;intro a S
 refine l_store S (S.tm rfl) (S.tm rfl) (i := 6) (off := 0) rfl Tryz.sizeOf39 (vs := (GStep.enc (GStep.mk Bl 1 r1.1 r2.1 r3.1 r4.1 r5.1 r6.1))) rfl rfl rfl rfl ?_;clear S;intro w14 hk14 S
 refine Ld ?_
 replace S := S.nk [.blk b1 (GStep.enc (GStep.mk Bl 1 r1.1 r2.1 r3.1 r4.1 r5.1 r6.1)) 39, .blk O [U, iV r6.2] 25] [(4, .pointer (some ⟨b1, 0, none⟩))] [false, false, false, false, false, false, true, true] rfl ⟨rfl, trivial⟩
 refine Tn (wp_ret ?_)
 obtain rfl := Option.some.inj h
 exact f_retG S (rs := [.cell 4 39]) (vs := [.agg (GStep.enc (GStep.mk Bl 1 r1.1 r2.1 r3.1 r4.1 r5.1 r6.1)).toArray]) Tryz.results15 ⟨(res_cell (off := 0) S rfl Tryz.isAgg39 Tryz.sizeOf39 rfl (S.cellsAt (i := 0) rfl)), trivial⟩ rfl ⟨(S.holds _ (List.mem_of_getElem? (i := 1) rfl)), rfl⟩
theorem Stream_Flip_ok (w : World) (O : Nat) (U : Value) (Ae : List Int) (Ad : Slc (view w [O]) 1 U (Ae.map eInt)) (Ab : Int) (Aw : (LEnt.blk O [U, iV Ab] 25).holds w) (Aj : Int) (r : Bool × Int) (h : Stream_Flip Ae Ab Aj = some r) :
    Calls Tryz.prog 16 [.pointer (some ⟨O, 0, none⟩), iV Aj].toArray w (Ret w [O] fun _ v w' => (LEnt.blk O [U, iV r.2] 25).holds w' ∧ v = bV r.1) := by
 refine f_enter [O] [.blk O [U, iV Ab] 25] Tryz.func16 rfl Tryz.ntmps16 rfl (fun e he => by simp only [List.mem_singleton] at he;subst he;exact Aw) (by simp [fps, LEnt.fp]) (by simp [fps, LEnt.fp]) fun a S => ?_
 unfold Stream_Flip at h
 replace S := S.nk [.blk O [U, iV Ab] 25] [(0, .pointer (some ⟨O, 0, none⟩)), (1, iV Aj)] [true] rfl (subR rfl)
 refine Fs (Fg (lv S (Ra rfl) rfl ?_));clear S;intro a S
 refine Ld (Tn (Fs (Fg (lv S (Rm (S.tm rfl)) rfl ?_))));clear S;intro a S
 refine lv S (Rm (S.tm rfl)) rfl ?_;clear S;intro a S
 obtain ⟨r1, hr1, h⟩ := bindE h
 refine l_enter1 0 S (b := O) rfl rfl (fun _ => .blk O [U, iV r1.2] 25) (fun _ => run_call (vs := [.pointer (some ⟨O, 0, none⟩), iV Aj]) ⟨(S.tm rfl), (S.tm rfl), trivial⟩ Tryz.call17) (Stream_Next_ok _ O U Ae (Ad.mono (S.le_arg (fp_sub (i := 0) (e := .blk O [U, iV Ab] 25) rfl))) Ab (S.holds _ (List.mem_of_getElem? (i := 0) rfl)) Aj _ hr1) rfl (fun _ _ _ h => ⟨h.1, fun _ hc => by cases hc;rfl⟩) ?_;clear S;intro v1 a w1 hv1 hk1 hn1 S
 replace hv1 := hv1.2
 subst hv1
 refine lv S (rn_eql (S.tm rfl) rfl) rfl ?_;clear S;intro a S
 refine lv S (Ra (S.tm rfl)) rfl ?_;clear S;intro a S
 refine Ld (Tn (wp_ret ?_))
 obtain rfl := Option.some.inj h
 exact f_ret S Tryz.results16 rfl ⟨(S.holds _ (List.mem_of_getElem? (i := 0) rfl)), rfl⟩
theorem Stream_Odd_ok (w : World) (O : Nat) (U : Value) (Ae : List Int) (Ad : Slc (view w [O]) 1 U (Ae.map eInt)) (Ab : Int) (Aw : (LEnt.blk O [U, iV Ab] 25).holds w) (Ay : Int) (Au : Int) (r : Int × Int) (h : Stream_Odd Ae Ab Ay Au = some r) :
    Calls Tryz.prog 18 [.pointer (some ⟨O, 0, none⟩), iV Ay, iV Au].toArray w (Ret w [O] fun _ v w' => (LEnt.blk O [U, iV r.2] 25).holds w' ∧ v = iV r.1) := by
 refine f_enter [O] [.blk O [U, iV Ab] 25] Tryz.func18 rfl Tryz.ntmps18 rfl (fun e he => by simp only [List.mem_singleton] at he;subst he;exact Aw) (by simp [fps, LEnt.fp]) (by simp [fps, LEnt.fp]) fun a S => ?_
 unfold Stream_Odd at h
 replace S := S.nk [.blk O [U, iV Ab] 25] [(0, .pointer (some ⟨O, 0, none⟩)), (1, iV Ay), (2, iV Au)] [true] rfl (subR rfl)
 refine Fs (Fg (lv S (Ra rfl) rfl ?_));clear S;intro a S
 refine Ld (Tn (Fs (Fs (Fg (lv S (Rm (S.tm rfl)) rfl ?_)))));clear S;intro a S
 obtain ⟨r1, hr1, h⟩ := bindE h
 refine l_enter1 0 S (b := O) rfl rfl (fun _ => .blk O [U, iV r1.2] 25) (fun _ => run_call (vs := [.pointer (some ⟨O, 0, none⟩), iV 12]) ⟨(S.tm rfl), rfl, trivial⟩ Tryz.call16) (Stream_Flip_ok _ O U Ae (Ad.mono (S.le_arg (fp_sub (i := 0) (e := .blk O [U, iV Ab] 25) rfl))) Ab (S.holds _ (List.mem_of_getElem? (i := 0) rfl)) 12 _ hr1) rfl (fun _ _ _ h => ⟨h.1, fun _ hc => by cases hc;rfl⟩) ?_;clear S;intro v1 a w1 hv1 hk1 hn1 S
 replace hv1 := hv1.2
 subst hv1
 refine Ld (Tn (f_cond (S.tm rfl) (fun hb1 => ?_) (fun hb1 => ?_)))
 ·replace h := iteT h hb1
  refine Fs (Fg (lv S (Rm (S.tm rfl)) rfl ?_));clear S;intro a S
  refine lv S (Rm (S.tm rfl)) rfl ?_;clear S;intro a S
  refine lv S (rn_sub (S.tm rfl) rfl) rfl ?_;clear S;intro a S
  refine lv S (Rm (S.tm rfl)) rfl ?_;clear S;intro a S
  refine lv S (rn_add (S.tm rfl) rfl) rfl ?_;clear S;intro a S
  refine lv S (Rm (S.tm rfl)) rfl ?_;clear S;intro a S
  refine lv S (Rm (S.tm rfl)) rfl ?_;clear S;intro a S
  refine l_buildSlice S Tryz.underlying22 Tryz.sizeOf3 Tryz.zeroValue3 rfl rfl (pv := [(0, iV (W (Ay - 1))), (1, iV (W (Au + 1))), (2, iV Ay), (3, iV Au), (4, iV (-1099511627776)), (5, iV 1099511627776)]) ⟨rfl, (S.tm rfl), rfl, (S.tm rfl), rfl, (S.tm rfl), rfl, (S.tm rfl), rfl, rfl, rfl, rfl, trivial⟩ (cs := [iV (W (Ay - 1)), iV (W (Au + 1)), iV Ay, iV Au, iV (-1099511627776), iV 1099511627776]) (by kernel_rfl) rfl ?_;clear S;intro a w2 b1 hz1 hk2 S
  obtain ⟨r2, hr2, h⟩ := bindE h
  refine l_enter1 1 S (b := O) rfl rfl (fun _ => .blk O [U, iV r2.2] 25) (fun _ => run_call (vs := [.pointer (some ⟨O, 0, none⟩), .slice (some ⟨b1, 0, none⟩) 6 6]) ⟨(S.tm rfl), (S.tm rfl), trivial⟩ Tryz.call14) (Stream_Pick_ok _ O U Ae (Ad.mono (S.le_arg (fp_sub (i := 1) (e := .blk O [U, iV r1.2] 25) rfl))) r1.2 (S.holds _ (List.mem_of_getElem? (i := 1) rfl)) (.slice (some ⟨b1, 0, none⟩) 6 6) [W (Ay - 1), W (Au + 1), Ay, Au, (-1099511627776), 1099511627776] (lit_slcT enc_int S (i := 0) rfl rfl rfl rfl ((ne_fp (i := 1) (j := 0) (e := .blk O [U, iV r1.2] 25) (e' := .blk b1 [iV (W (Ay - 1)), iV (W (Au + 1)), iV Ay, iV Au, iV (-1099511627776), iV 1099511627776] 3) S rfl rfl rfl) _ rfl)) _ hr2) rfl (fun _ _ _ h => ⟨h.1, fun _ hc => by cases hc;rfl⟩) ?_;clear S;intro v2 a w3 hv2 hk3 hn2 S
  replace hv2 := hv2.2
  subst hv2
  refine lv S (Ra (S.tm rfl)) rfl ?_;clear S;intro a S
  refine Ld ?_
  replace S := S.nk [.blk O [U, iV r2.2] 25] [(6, iV r2.1)] [false, true] rfl ⟨rfl, trivial⟩
  refine Tn (wp_ret (then_r ?_))
  obtain rfl := Option.some.inj h
  exact f_ret S Tryz.results18 rfl ⟨(S.holds _ (List.mem_of_getElem? (i := 0) rfl)), rfl⟩
 ·replace h := iteF h hb1
  refine wp_skip (Tn (Fs (Fg (lv S (Rm (S.tm rfl)) rfl ?_))));clear S;intro a S
  refine lv S (Rm (S.tm rfl)) rfl ?_;clear S;intro a S
  refine lv S (Rm (S.tm rfl)) rfl ?_;clear S;intro a S
  obtain ⟨r3, hr3, h⟩ := bindE h
  refine l_enter1 0 S (b := O) rfl rfl (fun _ => .blk O [U, iV r3.2] 25) (fun _ => run_call (vs := [.pointer (some ⟨O, 0, none⟩), iV Ay, iV Au]) ⟨(S.tm rfl), (S.tm rfl), (S.tm rfl), trivial⟩ Tryz.call5) (Stream_Range_ok _ O U Ae (Ad.mono (S.le_arg (fp_sub (i := 0) (e := .blk O [U, iV r1.2] 25) rfl))) r1.2 (S.holds _ (List.mem_of_getElem? (i := 0) rfl)) Ay Au _ hr3) rfl (fun _ _ _ h => ⟨h.1, fun _ hc => by cases hc;rfl⟩) ?_;clear S;intro v3 a w4 hv3 hk4 hn3 S
  replace hv3 := hv3.2
  subst hv3
  refine lv S (Ra (S.tm rfl)) rfl ?_;clear S;intro a S
  refine Ld (Tn (wp_ret ?_))
  obtain rfl := Option.some.inj h
  exact f_ret S Tryz.results18 rfl ⟨(S.holds _ (List.mem_of_getElem? (i := 0) rfl)), rfl⟩
theorem tumbref2_sign_ok (w : World) (Aj : Int) (r : Int) (h : tumbref2_sign Aj = r) :
    Calls Tryz.prog 52 [iV Aj].toArray w (Ret w [] fun _ v _ => v = iV r) := by
 refine f_enter [] [] Tryz.func52 rfl Tryz.ntmps52 rfl (by simp) (by simp [fps]) (by simp [fps]) fun a S => ?_
 unfold tumbref2_sign at h
 replace S := S.nk [] [(0, iV Aj)] [] rfl ⟨rfl, trivial⟩
 refine Fs (Fg (lv S (Ra rfl) rfl ?_));clear S;intro a S
 refine Ld (Tn (Fs (wp_block (Fs (Fg (lv S (Rm (S.tm rfl)) rfl ?_))))));clear S;intro a S
 refine lv S (rn_lss (S.tm rfl) rfl) rfl ?_;clear S;intro a S
 refine lv S (Ra (S.tm rfl)) rfl ?_;clear S;intro a S
 refine Ld (Tn (f_cond (S.tm rfl) (fun hb1 => ?_) (fun hb1 => ?_)))
 ·replace h := iteT h hb1
  refine Fs (Fg (lv S (Ra rfl) rfl ?_));clear S;intro a S
  refine Ld (Tn (wp_ret (blk_r (then_r ?_))))
  subst h
  exact f_ret S Tryz.results52 rfl rfl
 ·replace h := iteF h hb1
  refine Fs (Fg (lv S (Rm (S.tm rfl)) rfl ?_));clear S;intro a S
  refine lv S (rn_gtr (S.tm rfl) rfl) rfl ?_;clear S;intro a S
  refine lv S (Ra (S.tm rfl)) rfl ?_;clear S;intro a S
  refine Ld (Tn (f_cond (S.tm rfl) (fun hb2 => ?_) (fun hb2 => ?_)))
  ·replace h := iteT h hb2
   refine Fs (Fg (lv S (Ra rfl) rfl ?_));clear S;intro a S
   refine Ld (Tn (wp_ret (blk_r (then_r ?_))))
   subst h
   exact f_ret S Tryz.results52 rfl rfl
  ·replace h := iteF h hb2
   refine wp_skip (blk_n (Tn (Fs (Fg (lv S (Ra rfl) rfl ?_)))));clear S;intro a S
   refine Ld (Tn (wp_ret ?_))
   subst h
   exact f_ret S Tryz.results52 rfl rfl
theorem strings_Compare_ok (w : World) (s t : ByteArray) (r : Int) (h : strings_Compare s t = r) : Calls Tryz.prog 53 [.string s, .string t].toArray w (Ret w [] fun _ v _ => v = .int .i64 r) := by
  subst h
  exact ret_of_same (Any.strings_Compare Tryz.lays106 s t w)
theorem tumbref2_StepOrder_ok (w : World) (Am : GStep) (Ar : GStep) (r : Int) (h : tumbref2_StepOrder Am Ar = r) :
    Calls Tryz.prog 21 [.agg (GStep.enc Am).toArray, .agg (GStep.enc Ar).toArray].toArray w (Ret w [] fun _ v _ => v = iV r) := by
 refine f_enter [] [] Tryz.func21 rfl Tryz.ntmps21 rfl (by simp) (by simp [fps]) (by simp [fps]) fun a S => ?_
 unfold tumbref2_StepOrder at h
 replace S := S.nk [] [(0, .agg (GStep.enc Am).toArray), (1, .agg (GStep.enc Ar).toArray)] [] rfl (subR rfl)
 refine Fs (Fg (l_box S (S.tm rfl) (cs := (GStep.enc Am)) rfl rfl ?_));clear S;intro a w1 b1 hz1 hk1 S
 refine l_box S (S.tm rfl) (cs := (GStep.enc Ar)) rfl rfl ?_;clear S;intro a w2 b2 hz2 hk2 S
 refine lv S (Ra rfl) rfl ?_;clear S;intro a S
 refine Ld (Tn (Fs (wp_block (Fs (Fg (lv S (rn_fld fa_39_0 (S.tm rfl)) rfl ?_))))));clear S;intro a S
 refine lv S (rn_load Tryz.isAgg3 (S.tm rfl) (S.cell (i := 1) rfl rfl)) rfl ?_;clear S;intro a S
 refine lv S (rn_fld fa_39_0 (S.tm rfl)) rfl ?_;clear S;intro a S
 refine lv S (rn_load Tryz.isAgg3 (S.tm rfl) (S.cell (i := 0) rfl rfl)) rfl ?_;clear S;intro a S
 refine lv S (rn_neq (S.tm rfl) (S.tm rfl)) rfl ?_;clear S;intro a S
 refine lv S (Ra (S.tm rfl)) rfl ?_;clear S;intro a S
 refine Ld (Tn (f_cond (S.tm rfl) (fun hb1 => ?_) (fun hb1 => ?_)))
 ·replace h := iteT h hb1
  refine Fs (Fg (lv S (rn_fld fa_39_0 (S.tm rfl)) rfl ?_));clear S;intro a S
  refine lv S (rn_load Tryz.isAgg3 (S.tm rfl) (S.cell (i := 1) rfl rfl)) rfl ?_;clear S;intro a S
  refine lv S (rn_fld fa_39_0 (S.tm rfl)) rfl ?_;clear S;intro a S
  refine lv S (rn_load Tryz.isAgg3 (S.tm rfl) (S.cell (i := 0) rfl rfl)) rfl ?_;clear S;intro a S
  refine lv S (rn_sub (S.tm rfl) (S.tm rfl)) rfl ?_;clear S;intro a S
  refine l_enter S (fun _ => run_call (vs := [iV (W (Am.At - Ar.At))]) ⟨(S.tm rfl), trivial⟩ Tryz.call52) (tumbref2_sign_ok _ (W (Am.At - Ar.At)) _ rfl) rfl ?_;clear S;intro v1 a w3 hv1 hk3 hn1 S
  subst hv1
  refine lv S (Ra (S.tm rfl)) rfl ?_;clear S;intro a S
  refine Ld ?_
  replace S := S.nk [] [(4, iV (tumbref2_sign (W (Am.At - Ar.At))))] [false, false] rfl ⟨rfl, trivial⟩
  refine Tn (wp_ret (blk_r (then_r ?_)))
  subst h
  exact f_ret S Tryz.results21 rfl rfl
 ·replace h := iteF h hb1
  refine Fs (Fg (lv S (rn_fld fa_39_2 (S.tm rfl)) rfl ?_));clear S;intro a S
  refine lv S (rn_load Tryz.isAgg9 (S.tm rfl) (S.cell (i := 1) rfl rfl)) rfl ?_;clear S;intro a S
  refine lv S (rn_fld fa_39_2 (S.tm rfl)) rfl ?_;clear S;intro a S
  refine lv S (rn_load Tryz.isAgg9 (S.tm rfl) (S.cell (i := 0) rfl rfl)) rfl ?_;clear S;intro a S
  refine lv S (rn_sneq (S.tm rfl) (S.tm rfl)) rfl ?_;clear S;intro a S
  refine lv S (Ra (S.tm rfl)) rfl ?_;clear S;intro a S
  refine Ld ?_
  replace S := S.nk [.blk b2 (GStep.enc Ar) 39, .blk b1 (GStep.enc Am) 39] [(2, .pointer (some ⟨b1, 0, none⟩)), (3, .pointer (some ⟨b2, 0, none⟩)), (17, bV (!decide (Am.Id = Ar.Id)))] [true, true] rfl (subR rfl)
  refine Tn (f_cond (S.tm rfl) (fun hb2 => ?_) (fun hb2 => ?_))
  ·replace h := iteT h hb2
   refine Fs (Fg (lv S (rn_fld fa_39_2 (S.tm rfl)) rfl ?_));clear S;intro a S
   refine lv S (rn_load Tryz.isAgg9 (S.tm rfl) (S.cell (i := 1) rfl rfl)) rfl ?_;clear S;intro a S
   refine lv S (rn_fld fa_39_2 (S.tm rfl)) rfl ?_;clear S;intro a S
   refine lv S (rn_load Tryz.isAgg9 (S.tm rfl) (S.cell (i := 0) rfl rfl)) rfl ?_;clear S;intro a S
   refine l_enter S (fun _ => run_call (vs := [sV Am.Id, sV Ar.Id]) ⟨(S.tm rfl), (S.tm rfl), trivial⟩ Tryz.call53) (strings_Compare_ok _ Am.Id Ar.Id _ rfl) rfl ?_;clear S;intro v2 a w4 hv2 hk4 hn2 S
   subst hv2
   refine lv S (Ra (S.tm rfl)) rfl ?_;clear S;intro a S
   refine Ld (Tn (wp_ret (blk_r (then_r ?_))))
   subst h
   exact f_ret S Tryz.results21 rfl rfl
  ·replace h := iteF h hb2
   refine wp_skip (blk_n (Tn (Fs (Fg (lv S (rn_fld fa_39_1 (S.tm rfl)) rfl ?_)))));clear S;intro a S
   refine lv S (rn_load Tryz.isAgg3 (S.tm rfl) (S.cell (i := 1) rfl rfl)) rfl ?_;clear S;intro a S
   refine lv S (rn_fld fa_39_1 (S.tm rfl)) rfl ?_;clear S;intro a S
   refine lv S (rn_load Tryz.isAgg3 (S.tm rfl) (S.cell (i := 0) rfl rfl)) rfl ?_;clear S;intro a S
   refine lv S (rn_sub (S.tm rfl) (S.tm rfl)) rfl ?_;clear S;intro a S
   refine l_enter S (fun _ => run_call (vs := [iV (W (Am.Kind - Ar.Kind))]) ⟨(S.tm rfl), trivial⟩ Tryz.call52) (tumbref2_sign_ok _ (W (Am.Kind - Ar.Kind)) _ rfl) rfl ?_;clear S;intro v3 a w5 hv3 hk5 hn3 S
   subst hv3
   refine lv S (Ra (S.tm rfl)) rfl ?_;clear S;intro a S
   refine Ld (Tn (wp_ret ?_))
   subst h
   exact f_ret S Tryz.results21 rfl rfl
set_option maxRecDepth 20000 in
theorem slices_insertionSortCmpFunc_Step_tumbref2_StepOrder_ok (w : World) (Aa : Value) (Bb : List GStep) (Bs : (LEnt.own Aa 39 8 Bb.length (Bb.flatMap GStep.enc)).holds w) (Am : Int) (Ar : Int) (r : (List GStep)) (h : slices_insertionSortCmpFunc_Step_tumbref2_StepOrder Bb Am Ar = some r) :
    Calls Tryz.prog 75 [Aa, iV Am, iV Ar, .func (.func 21) #[] #[]].toArray w (Ret w (Aa.ownBlock.toList) fun _ v w' => (LEnt.own Aa 39 8 r.length (r.flatMap GStep.enc)).holds w' ∧ v = .tuple #[]) := by
 refine f_enter (Aa.ownBlock.toList) [.own Aa 39 8 Bb.length (Bb.flatMap GStep.enc)] Tryz.func75 rfl Tryz.ntmps75 rfl (fun e he => by simp only [List.mem_singleton] at he;subst he;exact Bs) (fps_one_nodup _) (fps_one_sub _) fun a S => ?_
 unfold slices_insertionSortCmpFunc_Step_tumbref2_StepOrder at h
 replace S := S.nk [.own Aa 39 8 Bb.length (Bb.flatMap GStep.enc)] [(0, Aa), (1, iV Am), (2, iV Ar), (3, .func (.func 21) #[] #[])] [true] rfl (subR rfl)
 refine Fs (Fg (lv S (Rm (S.tm rfl)) rfl ?_));clear S;intro a S
 refine lv S (rn_add (S.tm rfl) rfl) rfl ?_;clear S;intro a S
 refine lv S (Ra (S.tm rfl)) rfl ?_;clear S;intro a S
 refine Ld (Tn ?_)
 replace S := S.nk [.own Aa 39 8 Bb.length (Bb.flatMap GStep.enc)] [(0, Aa), (1, iV Am), (2, iV Ar), (3, .func (.func 21) #[] #[]), (8, iV (W (Am + 1)))] [true] rfl (subR rfl)
 obtain ⟨j1, hj1, h⟩ := joinE h
 refine f_join (fun a w' => ∃ x1 : List GStep, j1 x1 = some r ∧ Sx w (Aa.ownBlock.toList) nov [.own Aa 39 8 x1.length (x1.flatMap GStep.enc)] [] 53 a w') ?_ ?_
 ·refine wp_block (f_loop (fun (m1 : Nat) a w' => ∃ x1 : List GStep, ∃ x2 : Int, slices_insertionSortCmpFunc_Step_tumbref2_StepOrder_l1 Ar Am j1 m1 x1 x2 = some r ∧ Sx w (Aa.ownBlock.toList) nov [.own Aa 39 8 x1.length (x1.flatMap GStep.enc)] [(0, Aa), (1, iV Am), (2, iV Ar), (3, .func (.func 21) #[] #[]), (8, iV x2)] 53 a w') id ((Ar - (W (Am + 1))).toNat + 2) ⟨Bb, W (Am + 1), h, S.nf [true] rfl (subR rfl)⟩ ?_)
  clear S h;rintro m1 a w1 ⟨x1, x2, h, S⟩
  cases m1 with
  | zero => rw [slices_insertionSortCmpFunc_Step_tumbref2_StepOrder_l1.eq_1] at h;cases h
  | succ m1 =>
   rw [slices_insertionSortCmpFunc_Step_tumbref2_StepOrder_l1.eq_2] at h
   refine Fs (Fs (Fg (lv S (Rm (S.tm rfl)) rfl ?_)));clear S;intro a S
   refine lv S (Rm (S.tm rfl)) rfl ?_;clear S;intro a S
   refine lv S (rn_lss (S.tm rfl) (S.tm rfl)) rfl ?_;clear S;intro a S
   refine Ld (Tn (f_cond (S.tm rfl) (fun hb1 => ?_) (fun hb1 => ?_)))
   ·replace h := iteT h hb1
    refine wp_skip (Tn (Fs (wp_block (Fs (Fg (lv S (Rm (S.tm rfl)) rfl ?_))))));clear S;intro a S
    refine lv S (Ra (S.tm rfl)) rfl ?_;clear S;intro a S
    refine Ld (Tn ?_)
    replace S := S.nk [.own Aa 39 8 x1.length (x1.flatMap GStep.enc)] [(0, Aa), (1, iV Am), (2, iV Ar), (3, .func (.func 21) #[] #[]), (8, iV x2), (9, iV x2)] [true] rfl (subR rfl)
    obtain ⟨j2, hj2, h⟩ := joinE h
    refine f_join (fun a w' => ∃ x3 : List GStep, j2 x3 = some r ∧ Sx w (Aa.ownBlock.toList) nov [.own Aa 39 8 x3.length (x3.flatMap GStep.enc)] [(0, Aa), (1, iV Am), (2, iV Ar), (3, .func (.func 21) #[] #[]), (8, iV x2)] 53 a w') ?_ ?_
    ·refine wp_block (f_loop (fun (m2 : Nat) a w' => ∃ x3 : List GStep, ∃ x4 : Int, slices_insertionSortCmpFunc_Step_tumbref2_StepOrder_l2 Am j2 m2 x3 x4 = some r ∧ Sx w (Aa.ownBlock.toList) nov [.own Aa 39 8 x3.length (x3.flatMap GStep.enc)] [(0, Aa), (1, iV Am), (2, iV Ar), (3, .func (.func 21) #[] #[]), (8, iV x2), (9, iV x4)] 53 a w') id ((x2 - Am).toNat + 2) ⟨x1, x2, h, S.nf [true] rfl (subR rfl)⟩ ?_)
     clear S h;rintro m2 a w3 ⟨x3, x4, h, S⟩
     cases m2 with
     | zero => rw [slices_insertionSortCmpFunc_Step_tumbref2_StepOrder_l2.eq_1] at h;cases h
     | succ m2 =>
      rw [slices_insertionSortCmpFunc_Step_tumbref2_StepOrder_l2.eq_2] at h
      refine Fs (Fs ?_)
      obtain ⟨j3, hj3, h⟩ := joinE h
      refine f_join (fun a w' => ∃ x5 : Bool, j3 x5 = some r ∧ Sx w (Aa.ownBlock.toList) nov [.own Aa 39 8 x3.length (x3.flatMap GStep.enc)] [(0, Aa), (1, iV Am), (2, iV Ar), (3, .func (.func 21) #[] #[]), (8, iV x2), (9, iV x4), (34, bV x5)] 53 a w') ?_ ?_
      ·rcases Bool.eq_false_or_eq_true (decide (Am < x4)) with hb2 | hb2
       ·replace h := iteT h hb2
        obtain ⟨hc1, h⟩ := chkE h
        obtain ⟨hc2, h⟩ := chkE h
        refine d_region [] ([]) Tryz.mixed S rfl (by kernel_rfl) ?_;clear S;intro w7 hk2 hsel S
        refine d_quiet 0 S hsel rfl rfl rfl (by kernel_rfl) (by kernel_rfl) rfl (fun _ hw => (Rm (S.tm rfl))) ?_;clear S;intro a S
        refine d_quiet 1 S hsel rfl rfl rfl (by kernel_rfl) (by kernel_rfl) rfl (fun _ hw => (Rm (S.tm rfl))) ?_;clear S;intro a S
        refine d_quiet 2 S hsel rfl rfl rfl (by kernel_rfl) (by kernel_rfl) rfl (fun _ hw => (rn_gtr (S.tm rfl) (S.tm rfl))) ?_;clear S;intro a S
        refine d_quiet 3 S hsel rfl rfl rfl (by kernel_rfl) (by kernel_rfl) rfl (fun _ hw => (Rm (S.tm rfl))) ?_;clear S;intro a S
        refine d_quiet_g 4 S hsel rfl rfl rfl rfl hb2 rfl rfl (by kernel_rfl) (by kernel_rfl) rfl (fun _ hw => (Rm (S.tm rfl))) ?_;clear S;intro a S
        refine d_quiet_g 5 S hsel rfl rfl rfl rfl hb2 rfl rfl (by kernel_rfl) (by kernel_rfl) rfl (fun _ hw => (Rm (S.tm rfl))) ?_;clear S;intro a S
        refine d_quiet_g 6 S hsel rfl rfl rfl rfl hb2 rfl rfl (by kernel_rfl) (by kernel_rfl) rfl (fun _ hw => (Rm (S.tm rfl))) ?_;clear S;intro a S
        obtain ⟨b3, hg3, hr3⟩ := rn_indexS (a := a) (x := .tmp 23) (y := .tmp 24) (ty := 0) sl_26 GStep.enc_ok S (i := 0) rfl (inB_get hc1).1 (inB_get hc1).2 (S.tm rfl) (S.tm rfl)
        refine d_quiet_g 7 S hsel rfl rfl rfl rfl hb2 rfl rfl (by kernel_rfl) (by kernel_rfl) rfl (fun _ hw => (hr3 _)) ?_;clear S;intro a S
        clear hr3
        refine d_quiet_g 8 S hsel rfl rfl rfl rfl hb2 rfl rfl (by kernel_rfl) (by kernel_rfl) rfl (fun _ hw => (rn_ldA Tryz.isAgg39 Tryz.sizeOf39 (off := x4.toNat * 8) (o := 0) (part := (GStep.enc (nth x3 x4))) rfl rfl (S.tm rfl) ((own_mem GStep.enc_ok S (i := 0) rfl hg3 (inB_get hc1).1 (ne_nil (e' := .own Aa 39 8 x3.length (x3.flatMap GStep.enc)))).kept hw))) ?_;clear S;intro a S
        refine d_quiet_g 9 S hsel rfl rfl rfl rfl hb2 rfl rfl (by kernel_rfl) (by kernel_rfl) rfl (fun _ hw => (Rm (S.tm rfl))) ?_;clear S;intro a S
        refine d_quiet_g 10 S hsel rfl rfl rfl rfl hb2 rfl rfl (by kernel_rfl) (by kernel_rfl) rfl (fun _ hw => (Rm (S.tm rfl))) ?_;clear S;intro a S
        refine d_quiet_g 11 S hsel rfl rfl rfl rfl hb2 rfl rfl (by kernel_rfl) (by kernel_rfl) rfl (fun _ hw => (rn_sub (S.tm rfl) rfl)) ?_;clear S;intro a S
        obtain ⟨b4, hg4, hr4⟩ := rn_indexS (a := a) (x := .tmp 27) (y := .tmp 29) (ty := 0) sl_26 GStep.enc_ok S (i := 0) rfl (inB_get hc2).1 (inB_get hc2).2 (S.tm rfl) (S.tm rfl)
        refine d_quiet_g 12 S hsel rfl rfl rfl rfl hb2 rfl rfl (by kernel_rfl) (by kernel_rfl) rfl (fun _ hw => (hr4 _)) ?_;clear S;intro a S
        clear hr4
        refine d_quiet_g 13 S hsel rfl rfl rfl rfl hb2 rfl rfl (by kernel_rfl) (by kernel_rfl) rfl (fun _ hw => (rn_ldA Tryz.isAgg39 Tryz.sizeOf39 (off := ((W (x4 - 1)).toNat) * 8) (o := 0) (part := (GStep.enc (nth x3 (W (x4 - 1))))) rfl rfl (S.tm rfl) ((own_mem GStep.enc_ok S (i := 0) rfl hg4 (inB_get hc2).1 (ne_nil (e' := .own Aa 39 8 x3.length (x3.flatMap GStep.enc)))).kept hw))) ?_;clear S;intro a S
        refine d_loud1 14 (by kernel_rfl) rfl (l_want S rfl rfl rfl hb2 (l_enter S (fun _ => run_callV (cap := []) (S.tm rfl) (vs := [.agg (GStep.enc (nth x3 x4)).toArray, .agg (GStep.enc (nth x3 (W (x4 - 1)))).toArray]) ⟨(S.tm rfl), (S.tm rfl), trivial⟩ Tryz.call21) (tumbref2_StepOrder_ok _ (nth x3 x4) (nth x3 (W (x4 - 1))) _ rfl) rfl ?_));clear S;intro v2 a w8 hv2 hk3 hn2 S
        subst hv2
        refine Ld (d_next hk3 (d_rest [15, 16] hsel (by kernel_rfl) rfl ?_))
        clear hsel
        refine s_want S rfl rfl rfl rfl hb2 (s_lv0 S (rn_lss (S.tm rfl) rfl) rfl ?_);clear S;intro a S
        refine s_lv S rfl (rn_pick_b hb2 (S.tm rfl) (S.tm rfl)) rfl ?_;clear S;intro a S
        refine s_done ?_
        replace S := S.nk [.own Aa 39 8 x3.length (x3.flatMap GStep.enc)] [(0, Aa), (1, iV Am), (2, iV Ar), (3, .func (.func 21) #[] #[]), (8, iV x2), (9, iV x4), (22, .func (.func 21) #[] #[]), (23, Aa), (24, iV x4), (25, .pointer (some ⟨b3, x4.toNat * 8, none⟩)), (26, .agg (GStep.enc (nth x3 x4)).toArray), (27, Aa), (28, iV x4), (29, iV (W (x4 - 1))), (30, .pointer (some ⟨b4, ((W (x4 - 1)).toNat) * 8, none⟩)), (31, .agg (GStep.enc (nth x3 (W (x4 - 1)))).toArray), (32, iV (tumbref2_StepOrder (nth x3 x4) (nth x3 (W (x4 - 1))))), (33, bV (decide ((tumbref2_StepOrder (nth x3 x4) (nth x3 (W (x4 - 1)))) < 0))), (34, bV (decide ((tumbref2_StepOrder (nth x3 x4) (nth x3 (W (x4 - 1)))) < 0)))] [true] rfl (subR rfl)
        refine Tn ?_
        exact ⟨decide ((tumbref2_StepOrder (nth x3 x4) (nth x3 (W (x4 - 1)))) < 0), h, S.nf [true] rfl (subR rfl)⟩
       ·replace h := iteF h hb2
        refine d_region [] ([]) Tryz.mixed S rfl (by kernel_rfl) ?_;clear S;intro w9 hk4 hsel S
        refine d_rest [0, 1, 2, 3, 4, 5, 6, 7, 8, 9, 10, 11, 12, 13, 14, 15, 16] hsel (by kernel_rfl) rfl ?_
        clear hsel
        refine s_lv S rfl (Rm (S.tm rfl)) rfl ?_;clear S;intro a S
        refine s_lv S rfl (Rm (S.tm rfl)) rfl ?_;clear S;intro a S
        refine s_lv S rfl (rn_gtr (S.tm rfl) (S.tm rfl)) rfl ?_;clear S;intro a S
        refine s_lv S rfl (Rm (S.tm rfl)) rfl ?_;clear S;intro a S
        iterate 12 (refine s_skip S rfl rfl rfl rfl (neq_f hb2) rfl ?_ rfl;clear S;intro a S)
        refine s_lv S rfl (rn_pick_c hb2 (S.tm rfl) rfl) rfl ?_;clear S;intro a S
        refine s_done ?_
        replace S := S.nk [.own Aa 39 8 x3.length (x3.flatMap GStep.enc)] [(0, Aa), (1, iV Am), (2, iV Ar), (3, .func (.func 21) #[] #[]), (8, iV x2), (9, iV x4), (34, bV false)] [true] rfl (subR rfl)
        refine Tn ?_
        exact ⟨false, h, S.nf [true] rfl (subR rfl)⟩
      clear S h;rintro a w5 ⟨x5, h, S⟩;rw [hj3] at h;clear hj3 j3
      refine Tn (f_cond (S.tm rfl) (fun hb3 => ?_) (fun hb3 => ?_))
      ·replace h := iteT h hb3
       refine wp_skip (Tn (Fs (wp_block ?_)))
       obtain ⟨hc3, h⟩ := chkE h
       obtain ⟨hc4, h⟩ := chkE h
       obtain ⟨hc5, h⟩ := chkE h
       obtain ⟨hc6, h⟩ := chkE h
       refine d_region [15, 17] ([]) Tryz.mixed S rfl (by kernel_rfl) ?_;clear S;intro w14 hk9 hsel S
       refine d_pure 0 S hsel rfl rfl (by kernel_rfl) (by kernel_rfl) rfl (fun _ => (Rm (S.tm rfl))) ?_;clear S;intro a S
       refine d_pure 1 S hsel rfl rfl (by kernel_rfl) (by kernel_rfl) rfl (fun _ => (Rm (S.tm rfl))) ?_;clear S;intro a S
       refine d_pure 2 S hsel rfl rfl (by kernel_rfl) (by kernel_rfl) rfl (fun _ => (Rm (S.tm rfl))) ?_;clear S;intro a S
       refine d_pure 3 S hsel rfl rfl (by kernel_rfl) (by kernel_rfl) rfl (fun _ => (Rm (S.tm rfl))) ?_;clear S;intro a S
       refine d_pure 4 S hsel rfl rfl (by kernel_rfl) (by kernel_rfl) rfl (fun _ => (rn_sub (S.tm rfl) rfl)) ?_;clear S;intro a S
       refine d_pure 5 S hsel rfl rfl (by kernel_rfl) (by kernel_rfl) rfl (fun _ => (Rm (S.tm rfl))) ?_;clear S;intro a S
       refine d_pure 6 S hsel rfl rfl (by kernel_rfl) (by kernel_rfl) rfl (fun _ => (Rm (S.tm rfl))) ?_;clear S;intro a S
       refine d_pure 7 S hsel rfl rfl (by kernel_rfl) (by kernel_rfl) rfl (fun _ => (rn_sub (S.tm rfl) rfl)) ?_;clear S;intro a S
       obtain ⟨b9, hg9, hr9⟩ := rn_indexS (a := a) (x := .tmp 42) (y := .tmp 44) (ty := 0) sl_26 GStep.enc_ok S (i := 0) rfl (inB_get hc3).1 (inB_get hc3).2 (S.tm rfl) (S.tm rfl)
       refine d_pure 8 S hsel rfl rfl (by kernel_rfl) (by kernel_rfl) rfl (fun _ => (hr9 _)) ?_;clear S;intro a S
       clear hr9
       refine d_quiet 9 S hsel rfl (by kernel_rfl) (by kernel_rfl) (by kernel_rfl) (by kernel_rfl) rfl (fun _ hw => (rn_ldA Tryz.isAgg39 Tryz.sizeOf39 (off := ((W (x4 - 1)).toNat) * 8) (o := 0) (part := (GStep.enc (nth x3 (W (x4 - 1))))) rfl rfl (S.tm rfl) ((own_mem GStep.enc_ok S (i := 0) rfl hg9 (inB_get hc3).1 (ne_nil (e' := .own Aa 39 8 x3.length (x3.flatMap GStep.enc)))).kept hw))) ?_;clear S;intro a S
       refine d_pure 10 S hsel rfl rfl (by kernel_rfl) (by kernel_rfl) rfl (fun _ => (Rm (S.tm rfl))) ?_;clear S;intro a S
       refine d_pure 11 S hsel rfl rfl (by kernel_rfl) (by kernel_rfl) rfl (fun _ => (Rm (S.tm rfl))) ?_;clear S;intro a S
       obtain ⟨b10, hg10, hr10⟩ := rn_indexS (a := a) (x := .tmp 47) (y := .tmp 48) (ty := 0) sl_26 GStep.enc_ok S (i := 0) rfl (inB_get hc4).1 (inB_get hc4).2 (S.tm rfl) (S.tm rfl)
       refine d_pure 12 S hsel rfl rfl (by kernel_rfl) (by kernel_rfl) rfl (fun _ => (hr10 _)) ?_;clear S;intro a S
       clear hr10
       refine d_quiet 13 S hsel rfl (by kernel_rfl) (by kernel_rfl) (by kernel_rfl) (by kernel_rfl) rfl (fun _ hw => (rn_ldA Tryz.isAgg39 Tryz.sizeOf39 (off := x4.toNat * 8) (o := 0) (part := (GStep.enc (nth x3 x4))) rfl rfl (S.tm rfl) ((own_mem GStep.enc_ok S (i := 0) rfl hg10 (inB_get hc4).1 (ne_nil (e' := .own Aa 39 8 x3.length (x3.flatMap GStep.enc)))).kept hw))) ?_;clear S;intro a S
       obtain ⟨b11, hg11, hr11⟩ := rn_indexS (a := a) (x := .tmp 37) (y := .tmp 38) (ty := 0) sl_26 GStep.enc_ok S (i := 0) rfl (inB_get hc5).1 (inB_get hc5).2 (S.tm rfl) (S.tm rfl)
       refine d_pure 14 S hsel rfl rfl (by kernel_rfl) (by kernel_rfl) rfl (fun _ => (hr11 _)) ?_;clear S;intro a S
       clear hr11
       refine d_loudB 15 (Aa.ownBlock.toList) rfl (by kernel_rfl) rfl (l_storeO (c := 0) (j := x4.toNat) (nth x3 (W (x4 - 1))) GStep.enc_ok S (S.tm rfl) (S.tm rfl) (i := 0) rfl hg11 (inB_get hc5).1 Tryz.sizeOf39 (vs := [iV ((nth x3 (W (x4 - 1))).At), iV ((nth x3 (W (x4 - 1))).Kind), sV ((nth x3 (W (x4 - 1))).Id), sV ((nth x3 (W (x4 - 1))).Who), sV ((nth x3 (W (x4 - 1))).Club), sV ((nth x3 (W (x4 - 1))).Race), iV ((nth x3 (W (x4 - 1))).Age), iV ((nth x3 (W (x4 - 1))).Time)]) rfl rfl rfl rfl rfl ?_);clear S;intro w16 hk11 S
       refine Ld (d_nextB ?_)
       obtain ⟨b12, hg12, hr12⟩ := rn_indexS (a := a) (x := .tmp 39) (y := .tmp 41) (ty := 0) sl_26 GStep.enc_ok S (i := 0) rfl (inB_get hc6).1 (inB_get hc6).2 (S.tm rfl) (S.tm rfl)
       refine d_quiet 16 S hsel rfl rfl rfl (by kernel_rfl) (by kernel_rfl) rfl (fun _ hw => (hr12 _)) ?_;clear S;intro a S
       clear hr12
       refine d_loud1 17 (by kernel_rfl) rfl (l_storeO (c := 0) (j := (W (x4 - 1)).toNat) (nth x3 x4) GStep.enc_ok S (S.tm rfl) (S.tm rfl) (i := 0) rfl hg12 (inB_get hc6).1 Tryz.sizeOf39 (vs := [iV ((nth x3 x4).At), iV ((nth x3 x4).Kind), sV ((nth x3 x4).Id), sV ((nth x3 x4).Who), sV ((nth x3 x4).Club), sV ((nth x3 x4).Race), iV ((nth x3 x4).Age), iV ((nth x3 x4).Time)]) rfl rfl rfl rfl rfl ?_);clear S;intro w18 hk13 S
       refine Ld (d_next hk13 (d_end (by kernel_rfl) ?_))
       clear hsel
       replace S := S.nk [.own Aa 39 8 ((x3.set x4.toNat (nth x3 (W (x4 - 1)))).set ((W (x4 - 1)).toNat) (nth x3 x4)).length (((x3.set x4.toNat (nth x3 (W (x4 - 1)))).set ((W (x4 - 1)).toNat) (nth x3 x4)).flatMap GStep.enc)] [(0, Aa), (1, iV Am), (2, iV Ar), (3, .func (.func 21) #[] #[]), (8, iV x2), (9, iV x4)] [true] rfl (subR rfl)
       refine blk_n (Tn (Fg (lv S (Rm (S.tm rfl)) rfl ?_)));clear S;intro a S
       refine lv S (rn_sub (S.tm rfl) rfl) rfl ?_;clear S;intro a S
       refine lv S (Ra (S.tm rfl)) rfl ?_;clear S;intro a S
       refine Ld (Tn ?_)
       exact ⟨m2, ⟨((x3.set x4.toNat (nth x3 (W (x4 - 1)))).set ((W (x4 - 1)).toNat) (nth x3 x4)), W (x4 - 1), h, S.nf [true] rfl ⟨rfl, rfl, rfl, rfl, rfl, rfl, trivial⟩⟩, Nat.lt_succ_self _⟩
      ·replace h := iteF h hb3
       refine wp_exit (then_x (then_x (x_same (Tn ?_))))
       exact ⟨x3, h, S.nf [true] rfl (subR rfl)⟩
    clear S h;rintro a w4 ⟨x3, h, S⟩;rw [hj2] at h;clear hj2 j2
    refine blk_n (Tn (Fg (lv S (Rm (S.tm rfl)) rfl ?_)));clear S;intro a S
    refine lv S (rn_add (S.tm rfl) rfl) rfl ?_;clear S;intro a S
    refine lv S (Ra (S.tm rfl)) rfl ?_;clear S;intro a S
    refine Ld (Tn ?_)
    exact ⟨m1, ⟨x3, W (x2 + 1), h, S.nf [true] rfl ⟨rfl, rfl, rfl, rfl, rfl, trivial⟩⟩, Nat.lt_succ_self _⟩
   ·replace h := iteF h hb1
    refine wp_exit (then_x (then_x (x_same (Tn ?_))))
    exact ⟨x1, h, S.nf [true] rfl trivial⟩
 clear S h;rintro a w2 ⟨x1, h, S⟩;rw [hj1] at h;clear hj1 j1
 obtain rfl := Option.some.inj h
 exact f_ret0 S Tryz.results75 ⟨(S.holds _ (List.mem_of_getElem? (i := 0) rfl)), rfl⟩
theorem slices_stableCmpFunc_Step_tumbref2_StepOrder_ok (w : World) (Aa : Value) (Bb : List GStep) (Bs : (LEnt.own Aa 39 8 Bb.length (Bb.flatMap GStep.enc)).holds w) (Aj : Int) (r : (List GStep)) (h : slices_stableCmpFunc_Step_tumbref2_StepOrder Bb Aj = some r) :
    Calls Tryz.prog 51 [Aa, iV Aj, .func (.func 21) #[] #[]].toArray w (Ret w (Aa.ownBlock.toList) fun _ v w' => (LEnt.own Aa 39 8 r.length (r.flatMap GStep.enc)).holds w' ∧ v = .tuple #[]) := by
 refine f_enter (Aa.ownBlock.toList) [.own Aa 39 8 Bb.length (Bb.flatMap GStep.enc)] Tryz.func51 rfl Tryz.ntmps51 rfl (fun e he => by simp only [List.mem_singleton] at he;subst he;exact Bs) (fps_one_nodup _) (fps_one_sub _) fun a S => ?_
 unfold slices_stableCmpFunc_Step_tumbref2_StepOrder at h
 replace S := S.nk [.own Aa 39 8 Bb.length (Bb.flatMap GStep.enc)] [(0, Aa), (1, iV Aj), (2, .func (.func 21) #[] #[])] [true] rfl (subR rfl)
 refine Fs (Fg (lv S (Ra rfl) rfl ?_));clear S;intro a S
 refine Ld (Tn (Fs (Fg (lv S (Rm (S.tm rfl)) rfl ?_))));clear S;intro a S
 refine lv S (Ra rfl) rfl ?_;clear S;intro a S
 refine lv S (Ra (S.tm rfl)) rfl ?_;clear S;intro a S
 refine Ld (Tn (Fs ?_))
 replace S := S.nk [.own Aa 39 8 Bb.length (Bb.flatMap GStep.enc)] [(0, Aa), (1, iV Aj), (2, .func (.func 21) #[] #[]), (6, iV 20), (7, iV 0), (8, iV 20)] [true] rfl (subR rfl)
 obtain ⟨j1, hj1, h⟩ := joinE h
 refine f_join (fun a w' => ∃ x1 : List GStep, ∃ x2 : Int, j1 x1 x2 = some r ∧ Sx w (Aa.ownBlock.toList) nov [.own Aa 39 8 x1.length (x1.flatMap GStep.enc)] [(0, Aa), (1, iV Aj), (2, .func (.func 21) #[] #[]), (6, iV 20), (7, iV x2)] 63 a w') ?_ ?_
 ·refine wp_block (f_loop (fun (m1 : Nat) a w' => ∃ x1 : List GStep, ∃ x2 : Int, ∃ x3 : Int, slices_stableCmpFunc_Step_tumbref2_StepOrder_l1 Aj j1 m1 x1 x2 x3 = some r ∧ Sx w (Aa.ownBlock.toList) nov [.own Aa 39 8 x1.length (x1.flatMap GStep.enc)] [(0, Aa), (1, iV Aj), (2, .func (.func 21) #[] #[]), (6, iV 20), (7, iV x2), (8, iV x3)] 63 a w') id ((Aj - 20).toNat + 2) ⟨Bb, 0, 20, h, S.nf [true] rfl (subR rfl)⟩ ?_)
  clear S h;rintro m1 a w1 ⟨x1, x2, x3, h, S⟩
  cases m1 with
  | zero => rw [slices_stableCmpFunc_Step_tumbref2_StepOrder_l1.eq_1] at h;cases h
  | succ m1 =>
   rw [slices_stableCmpFunc_Step_tumbref2_StepOrder_l1.eq_2] at h
   refine Fs (Fs (Fg (lv S (Rm (S.tm rfl)) rfl ?_)));clear S;intro a S
   refine lv S (Rm (S.tm rfl)) rfl ?_;clear S;intro a S
   refine lv S (rn_leq (S.tm rfl) (S.tm rfl)) rfl ?_;clear S;intro a S
   refine Ld (Tn (f_cond (S.tm rfl) (fun hb1 => ?_) (fun hb1 => ?_)))
   ·replace h := iteT h hb1
    refine wp_skip (Tn (wp_block (Fs (Fg (lv S (Rm (S.tm rfl)) rfl ?_)))));clear S;intro a S
    iterate 3 (refine lv S (Rm (S.tm rfl)) rfl ?_;clear S;intro a S)
    obtain ⟨r1, hr1, h⟩ := bindE h
    refine l_enterO 0 S rfl (fun _ => .own Aa 39 8 r1.length (r1.flatMap GStep.enc)) (fun _ => run_call (vs := [Aa, iV x2, iV x3, .func (.func 21) #[] #[]]) ⟨(S.tm rfl), (S.tm rfl), (S.tm rfl), (S.tm rfl), trivial⟩ Tryz.call75) (slices_insertionSortCmpFunc_Step_tumbref2_StepOrder_ok _ Aa x1 (S.holds _ (List.mem_of_getElem? (i := 0) rfl)) x2 x3 _ hr1) rfl (fun _ _ _ h => ⟨h.1, fun _ hc => hc⟩) ?_;clear S;intro v1 a w3 hv1 hk1 hn1 S
    replace hv1 := hv1.2
    subst hv1
    refine Ld (Tn (Fs (Fg (lv S (Rm (S.tm rfl)) rfl ?_))));clear S;intro a S
    refine lv S (Ra (S.tm rfl)) rfl ?_;clear S;intro a S
    refine Ld ?_
    replace S := S.nk [.own Aa 39 8 r1.length (r1.flatMap GStep.enc)] [(0, Aa), (1, iV Aj), (2, .func (.func 21) #[] #[]), (6, iV 20), (7, iV x3), (8, iV x3)] [true] rfl (subR rfl)
    refine Tn (Fg (lv S (Rm (S.tm rfl)) rfl ?_));clear S;intro a S
    refine lv S (Rm (S.tm rfl)) rfl ?_;clear S;intro a S
    refine lv S (rn_add (S.tm rfl) (S.tm rfl)) rfl ?_;clear S;intro a S
    refine lv S (Ra (S.tm rfl)) rfl ?_;clear S;intro a S
    refine Ld (blk_n (Tn ?_))
    exact ⟨m1, ⟨r1, x3, W (x3 + 20), h, S.nf [true] rfl ⟨rfl, rfl, rfl, rfl, rfl, rfl, trivial⟩⟩, Nat.lt_succ_self _⟩
   ·replace h := iteF h hb1
    refine wp_exit (then_x (then_x (x_same (Tn ?_))))
    exact ⟨x1, x2, h, S.nf [true] rfl (subR rfl)⟩
 clear S h;rintro a w2 ⟨x1, x2, h, S⟩;rw [hj1] at h;clear hj1 j1
 refine Tn (Fs (Fg (lv S (Rm (S.tm rfl)) rfl ?_)));clear S;intro a S
 iterate 3 (refine lv S (Rm (S.tm rfl)) rfl ?_;clear S;intro a S)
 obtain ⟨r2, hr2, h⟩ := bindE h
 refine l_enterO 0 S rfl (fun _ => .own Aa 39 8 r2.length (r2.flatMap GStep.enc)) (fun _ => run_call (vs := [Aa, iV x2, iV Aj, .func (.func 21) #[] #[]]) ⟨(S.tm rfl), (S.tm rfl), (S.tm rfl), (S.tm rfl), trivial⟩ Tryz.call75) (slices_insertionSortCmpFunc_Step_tumbref2_StepOrder_ok _ Aa x1 (S.holds _ (List.mem_of_getElem? (i := 0) rfl)) x2 Aj _ hr2) rfl (fun _ _ _ h => ⟨h.1, fun _ hc => hc⟩) ?_;clear S;intro v2 a w4 hv2 hk2 hn2 S
 replace hv2 := hv2.2
 subst hv2
 refine Ld (Tn ?_)
 replace S := S.nk [.own Aa 39 8 r2.length (r2.flatMap GStep.enc)] [(1, iV Aj), (6, iV 20)] [true] rfl (subR rfl)
 obtain ⟨j2, hj2, h⟩ := joinE h
 refine f_join (fun a w' => j2 = some r ∧ Sx w (Aa.ownBlock.toList) nov [.own Aa 39 8 r2.length (r2.flatMap GStep.enc)] [] 63 a w') ?_ ?_
 ·refine wp_block (f_loop (fun (m2 : Nat) a w' => ∃ x4 : Int, slices_stableCmpFunc_Step_tumbref2_StepOrder_l2 Aj j2 m2 x4 = some r ∧ Sx w (Aa.ownBlock.toList) nov [.own Aa 39 8 r2.length (r2.flatMap GStep.enc)] [(1, iV Aj), (6, iV x4)] 63 a w') id ((Aj - 20).toNat + 2) ⟨20, h, S.nf [true] rfl (subR rfl)⟩ ?_)
  clear S h;rintro m2 a w5 ⟨x4, h, S⟩
  cases m2 with
  | zero => rw [slices_stableCmpFunc_Step_tumbref2_StepOrder_l2.eq_1] at h;cases h
  | succ m2 =>
   rw [slices_stableCmpFunc_Step_tumbref2_StepOrder_l2.eq_2] at h
   refine Fs (Fs (Fg (lv S (Rm (S.tm rfl)) rfl ?_)));clear S;intro a S
   refine lv S (Rm (S.tm rfl)) rfl ?_;clear S;intro a S
   refine lv S (rn_lss (S.tm rfl) (S.tm rfl)) rfl ?_;clear S;intro a S
   refine Ld (Tn (f_cond (S.tm rfl) (fun hb2 => ?_) (fun hb2 => ?_)))
   ·replace h := iteT h hb2
    refine wp_skip (Tn (wp_block (Fs (Fg (lv S (Rm (S.tm rfl)) rfl ?_)))));clear S;intro a S
    refine lv S (rn_mul rfl (S.tm rfl)) rfl ?_;clear S;intro a S
    refine lv S (Ra rfl) rfl ?_;clear S;intro a S
    refine lv S (Ra (S.tm rfl)) rfl ?_;clear S;intro a S
    refine Ld (Tn (Fs ?_))
    replace S := S.nk [.own Aa 39 8 r2.length (r2.flatMap GStep.enc)] [(1, iV Aj), (6, iV x4), (7, iV 0), (8, iV (W (2 * x4)))] [true] rfl (subR rfl)
    obtain ⟨j3, hj3, h⟩ := joinE h
    refine f_join (fun a w' => ∃ x5 : Int, j3 x5 = some r ∧ Sx w (Aa.ownBlock.toList) nov [.own Aa 39 8 r2.length (r2.flatMap GStep.enc)] [(1, iV Aj), (6, iV x4), (7, iV x5)] 63 a w') ?_ ?_
    ·refine wp_block (f_loop (fun (m3 : Nat) a w' => ∃ x5 : Int, ∃ x6 : Int, slices_stableCmpFunc_Step_tumbref2_StepOrder_l3 Aj j3 m3 x5 x6 = some r ∧ Sx w (Aa.ownBlock.toList) nov [.own Aa 39 8 r2.length (r2.flatMap GStep.enc)] [(1, iV Aj), (6, iV x4), (7, iV x5), (8, iV x6)] 63 a w') id ((Aj - (W (2 * x4))).toNat + 2) ⟨0, W (2 * x4), h, S.nf [true] rfl (subR rfl)⟩ ?_)
     clear S h;rintro m3 a w7 ⟨x5, x6, h, S⟩
     cases m3 with
     | zero => rw [slices_stableCmpFunc_Step_tumbref2_StepOrder_l3.eq_1] at h;cases h
     | succ m3 =>
      rw [slices_stableCmpFunc_Step_tumbref2_StepOrder_l3.eq_2] at h
      refine Fs (Fs (Fg (lv S (Rm (S.tm rfl)) rfl ?_)));clear S;intro a S
      refine lv S (Rm (S.tm rfl)) rfl ?_;clear S;intro a S
      refine lv S (rn_leq (S.tm rfl) (S.tm rfl)) rfl ?_;clear S;intro a S
      refine Ld (Tn (f_cond (S.tm rfl) (fun hb3 => ?_) (fun hb3 => ?_)))
      ·replace h := iteT h hb3
       refine wp_skip (Tn (wp_block (Fs ?_)))
       cases h
      ·replace h := iteF h hb3
       refine wp_exit (then_x (then_x (x_same (Tn ?_))))
       exact ⟨x5, h, S.nf [true] rfl (subR rfl)⟩
    clear S h;rintro a w8 ⟨x5, h, S⟩;rw [hj3] at h;clear hj3 j3
    refine Tn (Fs (Fs (Fg (lv S (Rm (S.tm rfl)) rfl ?_))));clear S;intro a S
    refine lv S (Rm (S.tm rfl)) rfl ?_;clear S;intro a S
    refine lv S (rn_add (S.tm rfl) (S.tm rfl)) rfl ?_;clear S;intro a S
    refine lv S (Ra (S.tm rfl)) rfl ?_;clear S;intro a S
    refine Ld (Tn (Fs (Fg (lv S (Rm (S.tm rfl)) rfl ?_))));clear S;intro a S
    refine lv S (Rm (S.tm rfl)) rfl ?_;clear S;intro a S
    refine lv S (rn_lss (S.tm rfl) (S.tm rfl)) rfl ?_;clear S;intro a S
    refine Ld (Tn (f_cond (S.tm rfl) (fun hb4 => ?_) (fun hb4 => ?_)))
    ·replace h := iteT h hb4
     cases h
    ·replace h := iteF h hb4
     refine wp_skip (Tn (Fg (lv S (Rm (S.tm rfl)) rfl ?_)));clear S;intro a S
     refine lv S (rn_mul (S.tm rfl) rfl) rfl ?_;clear S;intro a S
     refine lv S (Ra (S.tm rfl)) rfl ?_;clear S;intro a S
     refine Ld (blk_n (Tn ?_))
     exact ⟨m2, ⟨W (x4 * 2), h, S.nf [true] rfl ⟨rfl, rfl, trivial⟩⟩, Nat.lt_succ_self _⟩
   ·replace h := iteF h hb2
    refine wp_exit (then_x (then_x (x_same (Tn ?_))))
    exact ⟨h, S.nf [true] rfl trivial⟩
 clear S h;rintro a w6 ⟨h, S⟩;rw [hj2] at h;clear hj2 j2
 obtain rfl := Option.some.inj h
 exact f_ret0 S Tryz.results51 ⟨(S.holds _ (List.mem_of_getElem? (i := 0) rfl)), rfl⟩
theorem slices_SortStableFunc_Step_tumbref2_StepOrder_ok (w : World) (Bm : Value) (Al : List GStep) (Cb : (LEnt.own Bm 39 8 Al.length (Al.flatMap GStep.enc)).holds w) (r : (List GStep)) (h : slices_SortStableFunc_Step_tumbref2_StepOrder Al = some r) :
    Calls Tryz.prog 20 [Bm, .func (.func 21) #[] #[]].toArray w (Ret w (Bm.ownBlock.toList) fun _ v w' => (LEnt.own Bm 39 8 r.length (r.flatMap GStep.enc)).holds w' ∧ v = .tuple #[]) := by
 refine f_enter (Bm.ownBlock.toList) [.own Bm 39 8 Al.length (Al.flatMap GStep.enc)] Tryz.func20 rfl Tryz.ntmps20 rfl (fun e he => by simp only [List.mem_singleton] at he;subst he;exact Cb) (fps_one_nodup _) (fps_one_sub _) fun a S => ?_
 unfold slices_SortStableFunc_Step_tumbref2_StepOrder at h
 replace S := S.nk [.own Bm 39 8 Al.length (Al.flatMap GStep.enc)] [(0, Bm), (1, .func (.func 21) #[] #[])] [true] rfl (subR rfl)
 refine Fg (lv S (Rm (S.tm rfl)) rfl ?_);clear S;intro a S
 refine lv S (Rm (S.tm rfl)) rfl ?_;clear S;intro a S
 refine lv S (rn_lenT sl_26 (S.tm rfl) (own_len (S.own_at (i := 0) rfl))) rfl ?_;clear S;intro a S
 refine lv S (Rm (S.tm rfl)) rfl ?_;clear S;intro a S
 obtain ⟨r1, hr1, h⟩ := bindE h
 refine l_enterO 0 S rfl (fun _ => .own Bm 39 8 r1.length (r1.flatMap GStep.enc)) (fun _ => run_call (vs := [Bm, iV (Al.length : Int), .func (.func 21) #[] #[]]) ⟨(S.tm rfl), (S.tm rfl), (S.tm rfl), trivial⟩ Tryz.call51) (slices_stableCmpFunc_Step_tumbref2_StepOrder_ok _ Bm Al (S.holds _ (List.mem_of_getElem? (i := 0) rfl)) (Al.length : Int) _ hr1) rfl (fun _ _ _ h => ⟨h.1, fun _ hc => hc⟩) ?_;clear S;intro v1 a w1 hv1 hk1 hn1 S
 replace hv1 := hv1.2
 subst hv1
 refine Ld ?_
 obtain rfl := Option.some.inj h
 exact f_ret0 S Tryz.results20 ⟨(S.holds _ (List.mem_of_getElem? (i := 0) rfl)), rfl⟩
theorem Stream_Steps_c1_ok (w : World) (Am : GStep) (Ar : GStep) (r : Bool) (h : Stream_Steps_c1 Am Ar = r) :
    Calls Tryz.prog 23 [.agg (GStep.enc Am).toArray, .agg (GStep.enc Ar).toArray].toArray w (Ret w [] fun _ v _ => v = bV r) := by
 refine f_enter [] [] Tryz.func23 rfl Tryz.ntmps23 rfl (by simp) (by simp [fps]) (by simp [fps]) fun a S => ?_
 unfold Stream_Steps_c1 at h
 replace S := S.nk [] [(0, .agg (GStep.enc Am).toArray), (1, .agg (GStep.enc Ar).toArray)] [] rfl (subR rfl)
 refine Fs (Fg (l_box S (S.tm rfl) (cs := (GStep.enc Am)) rfl rfl ?_));clear S;intro a w1 b1 hz1 hk1 S
 refine l_box S (S.tm rfl) (cs := (GStep.enc Ar)) rfl rfl ?_;clear S;intro a w2 b2 hz2 hk2 S
 refine lv S (Ra rfl) rfl ?_;clear S;intro a S
 refine Ld (Tn (Fs (Fg (lv S (rn_ldA Tryz.isAgg39 Tryz.sizeOf39 (off := 0) (o := 0) (part := (GStep.enc Am)) rfl rfl (S.tm rfl) (S.cellsAt (i := 1) rfl)) rfl ?_))));clear S;intro a S
 refine lv S (rn_ldA Tryz.isAgg39 Tryz.sizeOf39 (off := 0) (o := 0) (part := (GStep.enc Ar)) rfl rfl (S.tm rfl) (S.cellsAt (i := 0) rfl)) rfl ?_;clear S;intro a S
 refine l_enter S (fun _ => run_call (vs := [.agg (GStep.enc Am).toArray, .agg (GStep.enc Ar).toArray]) ⟨(S.tm rfl), (S.tm rfl), trivial⟩ Tryz.call21) (tumbref2_StepOrder_ok _ Am Ar _ rfl) rfl ?_;clear S;intro v1 a w3 hv1 hk3 hn1 S
 subst hv1
 refine lv S (rn_eql (S.tm rfl) rfl) rfl ?_;clear S;intro a S
 refine lv S (Ra (S.tm rfl)) rfl ?_;clear S;intro a S
 refine Ld (Tn (wp_ret ?_))
 subst h
 exact f_ret S Tryz.results23 rfl rfl
set_option maxRecDepth 20000 in
theorem slices_CompactFunc_Step_Stream_Steps_c1_ok (w : World) (Ah : Value) (Z : List GStep) (Cc : (LEnt.own Ah 39 8 Z.length (Z.flatMap GStep.enc)).holds w) (r : (List GStep)) (h : slices_CompactFunc_Step_Stream_Steps_c1 Z = some r) :
    Calls Tryz.prog 22 [Ah, .func (.func 23) #[] #[]].toArray w (Ret w (Ah.ownBlock.toList) fun _ v w' => (LEnt.own v 39 8 r.length (r.flatMap GStep.enc)).holds w' ∧ v.ownBlock = Ah.ownBlock) := by
 refine f_enter (Ah.ownBlock.toList) [.own Ah 39 8 Z.length (Z.flatMap GStep.enc)] Tryz.func22 rfl Tryz.ntmps22 rfl (fun e he => by simp only [List.mem_singleton] at he;subst he;exact Cc) (fps_one_nodup _) (fps_one_sub _) fun a S => ?_
 unfold slices_CompactFunc_Step_Stream_Steps_c1 at h
 replace S := S.nk [.own Ah 39 8 Z.length (Z.flatMap GStep.enc)] [(0, Ah), (1, .func (.func 23) #[] #[])] [true] rfl (subR rfl)
 refine Fs (Fg (lv S (Ra rfl) rfl ?_));clear S;intro a S
 refine Ld (Tn (Fs (Fs (Fg (lv S (Rm (S.tm rfl)) rfl ?_)))));clear S;intro a S
 refine lv S (rn_lenT sl_26 (S.tm rfl) (own_len (S.own_at (i := 0) rfl))) rfl ?_;clear S;intro a S
 refine lv S (rn_lss (S.tm rfl) rfl) rfl ?_;clear S;intro a S
 refine Ld (Tn (f_cond (S.tm rfl) (fun hb1 => ?_) (fun hb1 => ?_)))
 ·replace h := iteT h hb1
  refine Fs (Fg (lv S (Rm (S.tm rfl)) rfl ?_));clear S;intro a S
  refine lv S (Ra (S.tm rfl)) rfl ?_;clear S;intro a S
  refine Ld (Tn (wp_ret (then_r ?_)))
  obtain rfl := Option.some.inj h
  exact f_ret S Tryz.results22 rfl ⟨(S.holds _ (List.mem_of_getElem? (i := 0) rfl)), rfl⟩
 ·replace h := iteF h hb1
  refine wp_skip (Tn (Fs (Fs (Fg (lv S (Ra rfl) rfl ?_)))));clear S;intro a S
  refine Ld (Tn ?_)
  replace S := S.nk [.own Ah 39 8 Z.length (Z.flatMap GStep.enc)] [(0, Ah), (1, .func (.func 23) #[] #[]), (5, iV 1)] [true] rfl (subR rfl)
  obtain ⟨j1, hj1, h⟩ := joinE h
  refine f_join (fun a w' => j1 = some r ∧ Sx w (Ah.ownBlock.toList) nov [.own Ah 39 8 Z.length (Z.flatMap GStep.enc)] [(0, Ah)] 66 a w') ?_ ?_
  ·refine wp_block (f_loop (fun (m1 : Nat) a w' => ∃ x1 : Int, slices_CompactFunc_Step_Stream_Steps_c1_l1 Z j1 m1 x1 = some r ∧ Sx w (Ah.ownBlock.toList) nov [.own Ah 39 8 Z.length (Z.flatMap GStep.enc)] [(0, Ah), (1, .func (.func 23) #[] #[]), (5, iV x1)] 66 a w') id (((Z.length : Int) - 1).toNat + 2) ⟨1, h, S.nf [true] rfl (subR rfl)⟩ ?_)
   clear S h;rintro m1 a w1 ⟨x1, h, S⟩
   cases m1 with
   | zero => rw [slices_CompactFunc_Step_Stream_Steps_c1_l1.eq_1] at h;cases h
   | succ m1 =>
    rw [slices_CompactFunc_Step_Stream_Steps_c1_l1.eq_2] at h
    refine Fs (Fs (Fg (lv S (Rm (S.tm rfl)) rfl ?_)));clear S;intro a S
    refine lv S (Rm (S.tm rfl)) rfl ?_;clear S;intro a S
    refine lv S (rn_lenT sl_26 (S.tm rfl) (own_len (S.own_at (i := 0) rfl))) rfl ?_;clear S;intro a S
    refine lv S (rn_lss (S.tm rfl) (S.tm rfl)) rfl ?_;clear S;intro a S
    refine Ld (Tn (f_cond (S.tm rfl) (fun hb2 => ?_) (fun hb2 => ?_)))
    ·replace h := iteT h hb2
     refine wp_skip (Tn (Fs (wp_block (Fs ?_))))
     obtain ⟨hc1, h⟩ := chkE h
     obtain ⟨hc2, h⟩ := chkE h
     refine d_region [] ([]) Tryz.mixed S rfl (by kernel_rfl) ?_;clear S;intro w4 hk2 hsel S
     refine d_quiet 0 S hsel rfl rfl rfl (by kernel_rfl) (by kernel_rfl) rfl (fun _ hw => (Rm (S.tm rfl))) ?_;clear S;intro a S
     refine d_quiet 1 S hsel rfl rfl rfl (by kernel_rfl) (by kernel_rfl) rfl (fun _ hw => (Rm (S.tm rfl))) ?_;clear S;intro a S
     refine d_quiet 2 S hsel rfl rfl rfl (by kernel_rfl) (by kernel_rfl) rfl (fun _ hw => (Rm (S.tm rfl))) ?_;clear S;intro a S
     obtain ⟨b3, hg3, hr3⟩ := rn_indexS (a := a) (x := .tmp 19) (y := .tmp 20) (ty := 0) sl_26 GStep.enc_ok S (i := 0) rfl (inB_get hc1).1 (inB_get hc1).2 (S.tm rfl) (S.tm rfl)
     refine d_quiet 3 S hsel rfl rfl rfl (by kernel_rfl) (by kernel_rfl) rfl (fun _ hw => (hr3 _)) ?_;clear S;intro a S
     clear hr3
     refine d_quiet 4 S hsel rfl rfl rfl (by kernel_rfl) (by kernel_rfl) rfl (fun _ hw => (rn_ldA Tryz.isAgg39 Tryz.sizeOf39 (off := x1.toNat * 8) (o := 0) (part := (GStep.enc (nth Z x1))) rfl rfl (S.tm rfl) ((own_mem GStep.enc_ok S (i := 0) rfl hg3 (inB_get hc1).1 (ne_nil (e' := .own Ah 39 8 Z.length (Z.flatMap GStep.enc)))).kept hw))) ?_;clear S;intro a S
     refine d_quiet 5 S hsel rfl rfl rfl (by kernel_rfl) (by kernel_rfl) rfl (fun _ hw => (Rm (S.tm rfl))) ?_;clear S;intro a S
     refine d_quiet 6 S hsel rfl rfl rfl (by kernel_rfl) (by kernel_rfl) rfl (fun _ hw => (Rm (S.tm rfl))) ?_;clear S;intro a S
     refine d_quiet 7 S hsel rfl rfl rfl (by kernel_rfl) (by kernel_rfl) rfl (fun _ hw => (rn_sub (S.tm rfl) rfl)) ?_;clear S;intro a S
     obtain ⟨b4, hg4, hr4⟩ := rn_indexS (a := a) (x := .tmp 23) (y := .tmp 25) (ty := 0) sl_26 GStep.enc_ok S (i := 0) rfl (inB_get hc2).1 (inB_get hc2).2 (S.tm rfl) (S.tm rfl)
     refine d_quiet 8 S hsel rfl rfl rfl (by kernel_rfl) (by kernel_rfl) rfl (fun _ hw => (hr4 _)) ?_;clear S;intro a S
     clear hr4
     refine d_quiet 9 S hsel rfl rfl rfl (by kernel_rfl) (by kernel_rfl) rfl (fun _ hw => (rn_ldA Tryz.isAgg39 Tryz.sizeOf39 (off := ((W (x1 - 1)).toNat) * 8) (o := 0) (part := (GStep.enc (nth Z (W (x1 - 1))))) rfl rfl (S.tm rfl) ((own_mem GStep.enc_ok S (i := 0) rfl hg4 (inB_get hc2).1 (ne_nil (e' := .own Ah 39 8 Z.length (Z.flatMap GStep.enc)))).kept hw))) ?_;clear S;intro a S
     refine d_loud1 10 (by kernel_rfl) rfl (l_enter S (fun _ => run_callV (cap := []) (S.tm rfl) (vs := [.agg (GStep.enc (nth Z x1)).toArray, .agg (GStep.enc (nth Z (W (x1 - 1)))).toArray]) ⟨(S.tm rfl), (S.tm rfl), trivial⟩ Tryz.call23) (Stream_Steps_c1_ok _ (nth Z x1) (nth Z (W (x1 - 1))) _ rfl) rfl ?_);clear S;intro v2 a w5 hv2 hk3 hn2 S
     subst hv2
     refine Ld (d_next hk3 (d_end (by kernel_rfl) ?_))
     clear hsel
     replace S := S.nk [.own Ah 39 8 Z.length (Z.flatMap GStep.enc)] [(0, Ah), (1, .func (.func 23) #[] #[]), (5, iV x1), (28, bV (Stream_Steps_c1 (nth Z x1) (nth Z (W (x1 - 1)))))] [true] rfl (subR rfl)
     refine Tn (f_cond (S.tm rfl) (fun hb3 => ?_) (fun hb3 => ?_))
     ·replace h := iteT h hb3
      refine Fs (Fg (lv S (Rm (S.tm rfl)) rfl ?_));clear S;intro a S
      refine lv S (Rm (S.tm rfl)) rfl ?_;clear S;intro a S
      obtain ⟨hc3, h⟩ := chkE h
      obtain ⟨u1, hu1, hr5⟩ := rn_subl (a := a) (x := .tmp 29) (y := .tmp 30) (ty := 26) sl_26 S (i := 0) rfl (S.tm rfl) (S.tm rfl) hc3
      refine lv S (hr5 _) rfl ?_;clear S;intro a S
      clear hr5
      refine lv S (Ra (S.tm rfl)) rfl ?_;clear S;intro a S
      refine Ld (Tn (Fs (Fs (Fg (lv S (Ra rfl) rfl ?_)))));clear S;intro a S
      refine Ld (Tn ?_)
      replace S := S.nk [.own Ah 39 8 Z.length (Z.flatMap GStep.enc)] [(0, Ah), (1, .func (.func 23) #[] #[]), (5, iV x1), (6, u1), (7, iV 1)] [true] rfl (subR rfl)
      obtain ⟨j2, hj2, h⟩ := joinE h
      refine f_join (fun a w' => ∃ x2 : List GStep, ∃ x3 : Int, j2 x2 x3 = some r ∧ Sx w (Ah.ownBlock.toList) nov [.own Ah 39 8 x2.length (x2.flatMap GStep.enc)] [(0, Ah), (5, iV x3)] 66 a w') ?_ ?_
      ·refine wp_block (f_loop (fun (m2 : Nat) a w' => ∃ x2 : List GStep, ∃ x3 : Int, ∃ x4 : Int, slices_CompactFunc_Step_Stream_Steps_c1_l2 Z x1 j2 m2 x2 x3 x4 = some r ∧ Sx w (Ah.ownBlock.toList) nov [.own Ah 39 8 x2.length (x2.flatMap GStep.enc)] [(0, Ah), (1, .func (.func 23) #[] #[]), (5, iV x3), (6, u1), (7, iV x4)] 66 a w') id (((((Z.length : Int).toNat - x1.toNat : Nat) : Int) - 1).toNat + 2) ⟨Z, x1, 1, h, S.nf [true] rfl (subR rfl)⟩ ?_)
       clear S h;rintro m2 a w6 ⟨x2, x3, x4, h, S⟩
       cases m2 with
       | zero => rw [slices_CompactFunc_Step_Stream_Steps_c1_l2.eq_1] at h;cases h
       | succ m2 =>
        rw [slices_CompactFunc_Step_Stream_Steps_c1_l2.eq_2] at h
        refine Fs (Fs (Fg (lv S (Rm (S.tm rfl)) rfl ?_)));clear S;intro a S
        refine lv S (Rm (S.tm rfl)) rfl ?_;clear S;intro a S
        refine lv S (rn_lenT sl_26 (S.tm rfl) (subLen hu1)) rfl ?_;clear S;intro a S
        refine lv S (rn_lss (S.tm rfl) (S.tm rfl)) rfl ?_;clear S;intro a S
        refine Ld (Tn (f_cond (S.tm rfl) (fun hb4 => ?_) (fun hb4 => ?_)))
        ·replace h := iteT h hb4
         refine wp_skip (Tn (Fs ?_))
         obtain ⟨j3, hj3, h⟩ := joinE h
         refine f_join (fun a w' => ∃ x5 : List GStep, ∃ x6 : Int, j3 x5 x6 = some r ∧ Sx w (Ah.ownBlock.toList) nov [.own Ah 39 8 x5.length (x5.flatMap GStep.enc)] [(0, Ah), (1, .func (.func 23) #[] #[]), (5, iV x6), (6, u1), (7, iV x4)] 66 a w') ?_ ?_
         ·refine wp_block (Fs ?_)
          obtain ⟨hc4, h⟩ := chkE h
          obtain ⟨hc5, h⟩ := chkE h
          refine d_region [] ([]) Tryz.mixed S rfl (by kernel_rfl) ?_;clear S;intro w10 hk5 hsel S
          refine d_quiet 0 S hsel rfl rfl rfl (by kernel_rfl) (by kernel_rfl) rfl (fun _ hw => (Rm (S.tm rfl))) ?_;clear S;intro a S
          refine d_quiet 1 S hsel rfl rfl rfl (by kernel_rfl) (by kernel_rfl) rfl (fun _ hw => (Rm (S.tm rfl))) ?_;clear S;intro a S
          refine d_quiet 2 S hsel rfl rfl rfl (by kernel_rfl) (by kernel_rfl) rfl (fun _ hw => (Rm (S.tm rfl))) ?_;clear S;intro a S
          have hj6 := (sub_get (sub_le S (i := 0) rfl hu1) hc4).1
          obtain ⟨b7, hg7, hr8⟩ := rn_indexSub (a := a) (x := .tmp 39) (y := .tmp 40) (ty := 0) sl_26 GStep.enc_ok S (i := 0) rfl hu1 hc4 (S.tm rfl) (S.tm rfl)
          refine d_quiet 3 S hsel rfl rfl rfl (by kernel_rfl) (by kernel_rfl) rfl (fun _ hw => (hr8 _)) ?_;clear S;intro a S
          clear hr8
          refine d_quiet 4 S hsel rfl rfl rfl (by kernel_rfl) (by kernel_rfl) rfl (fun _ hw => (rn_ldA Tryz.isAgg39 Tryz.sizeOf39 (off := (x1.toNat + x4.toNat) * 8) (o := 0) (part := (GStep.enc (nth (cut x2 x1 (Z.length : Int)) x4))) rfl rfl (S.tm rfl) ((own_mem GStep.enc_ok S (i := 0) rfl hg7 hj6 (ne_nil (e' := .own Ah 39 8 x2.length (x2.flatMap GStep.enc)))).kept hw))) ?_;clear S;intro a S
          refine d_quiet 5 S hsel rfl rfl rfl (by kernel_rfl) (by kernel_rfl) rfl (fun _ hw => (Rm (S.tm rfl))) ?_;clear S;intro a S
          refine d_quiet 6 S hsel rfl rfl rfl (by kernel_rfl) (by kernel_rfl) rfl (fun _ hw => (Rm (S.tm rfl))) ?_;clear S;intro a S
          refine d_quiet 7 S hsel rfl rfl rfl (by kernel_rfl) (by kernel_rfl) rfl (fun _ hw => (rn_sub (S.tm rfl) rfl)) ?_;clear S;intro a S
          have hj7 := (sub_get (sub_le S (i := 0) rfl hu1) hc5).1
          obtain ⟨b8, hg8, hr9⟩ := rn_indexSub (a := a) (x := .tmp 43) (y := .tmp 45) (ty := 0) sl_26 GStep.enc_ok S (i := 0) rfl hu1 hc5 (S.tm rfl) (S.tm rfl)
          refine d_quiet 8 S hsel rfl rfl rfl (by kernel_rfl) (by kernel_rfl) rfl (fun _ hw => (hr9 _)) ?_;clear S;intro a S
          clear hr9
          refine d_quiet 9 S hsel rfl rfl rfl (by kernel_rfl) (by kernel_rfl) rfl (fun _ hw => (rn_ldA Tryz.isAgg39 Tryz.sizeOf39 (off := (x1.toNat + (W (x4 - 1)).toNat) * 8) (o := 0) (part := (GStep.enc (nth (cut x2 x1 (Z.length : Int)) (W (x4 - 1))))) rfl rfl (S.tm rfl) ((own_mem GStep.enc_ok S (i := 0) rfl hg8 hj7 (ne_nil (e' := .own Ah 39 8 x2.length (x2.flatMap GStep.enc)))).kept hw))) ?_;clear S;intro a S
          refine d_loud1 10 (by kernel_rfl) rfl (l_enter S (fun _ => run_callV (cap := []) (S.tm rfl) (vs := [.agg (GStep.enc (nth (cut x2 x1 (Z.length : Int)) x4)).toArray, .agg (GStep.enc (nth (cut x2 x1 (Z.length : Int)) (W (x4 - 1)))).toArray]) ⟨(S.tm rfl), (S.tm rfl), trivial⟩ Tryz.call23) (Stream_Steps_c1_ok _ (nth (cut x2 x1 (Z.length : Int)) x4) (nth (cut x2 x1 (Z.length : Int)) (W (x4 - 1))) _ rfl) rfl ?_);clear S;intro v4 a w11 hv4 hk6 hn4 S
          subst hv4
          refine Ld (d_next hk6 (d_rest [11] hsel (by kernel_rfl) rfl ?_))
          clear hsel
          refine s_lv S rfl (rn_not (S.tm rfl)) rfl ?_;clear S;intro a S
          refine s_done ?_
          replace S := S.nk [.own Ah 39 8 x2.length (x2.flatMap GStep.enc)] [(0, Ah), (1, .func (.func 23) #[] #[]), (5, iV x3), (6, u1), (7, iV x4), (49, bV (!(Stream_Steps_c1 (nth (cut x2 x1 (Z.length : Int)) x4) (nth (cut x2 x1 (Z.length : Int)) (W (x4 - 1))))))] [true] rfl (subR rfl)
          refine Tn ?_
          obtain ⟨j4, hj8, h⟩ := joinE h
          refine f_join (fun a w' => ∃ x7 : List GStep, ∃ x8 : Int, j4 x7 x8 = some r ∧ Sx w (Ah.ownBlock.toList) nov [.own Ah 39 8 x7.length (x7.flatMap GStep.enc)] [(0, Ah), (1, .func (.func 23) #[] #[]), (5, iV x8), (6, u1), (7, iV x4)] 66 a w') ?_ ?_
          ·refine f_cond (S.tm rfl) (fun hb5 => ?_) (fun hb5 => ?_)
           ·replace h := iteT h hb5
            refine Fs (Fg (lv S (Rm (S.tm rfl)) rfl ?_));clear S;intro a S
            iterate 3 (refine lv S (Rm (S.tm rfl)) rfl ?_;clear S;intro a S)
            obtain ⟨hc6, h⟩ := chkE h
            have hj9 := (sub_get (sub_le S (i := 0) rfl hu1) hc6).1
            obtain ⟨b9, hg9, hr10⟩ := rn_indexSub (a := a) (x := .tmp 52) (y := .tmp 53) (ty := 0) sl_26 GStep.enc_ok S (i := 0) rfl hu1 hc6 (S.tm rfl) (S.tm rfl)
            refine lv S (hr10 _) rfl ?_;clear S;intro a S
            clear hr10
            refine lv S (rn_ldA Tryz.isAgg39 Tryz.sizeOf39 (off := (x1.toNat + x4.toNat) * 8) (o := 0) (part := (GStep.enc (nth (cut x2 x1 (Z.length : Int)) x4))) rfl rfl (S.tm rfl) (own_cells GStep.enc_ok S (i := 0) rfl hg9 hj9)) rfl ?_;clear S;intro a S
            obtain ⟨hc7, h⟩ := chkE h
            obtain ⟨b10, hg10, hr11⟩ := rn_indexS (a := a) (x := .tmp 50) (y := .tmp 51) (ty := 0) sl_26 GStep.enc_ok S (i := 0) rfl (inB_get hc7).1 (inB_get hc7).2 (S.tm rfl) (S.tm rfl)
            refine lv S (hr11 _) rfl ?_;clear S;intro a S
            clear hr11
            refine l_storeO (c := 0) (j := x3.toNat) (nth (cut x2 x1 (Z.length : Int)) x4) GStep.enc_ok S (S.tm rfl) (S.tm rfl) (i := 0) rfl hg10 (inB_get hc7).1 Tryz.sizeOf39 (vs := [iV ((nth (cut x2 x1 (Z.length : Int)) x4).At), iV ((nth (cut x2 x1 (Z.length : Int)) x4).Kind), sV ((nth (cut x2 x1 (Z.length : Int)) x4).Id), sV ((nth (cut x2 x1 (Z.length : Int)) x4).Who), sV ((nth (cut x2 x1 (Z.length : Int)) x4).Club), sV ((nth (cut x2 x1 (Z.length : Int)) x4).Race), iV ((nth (cut x2 x1 (Z.length : Int)) x4).Age), iV ((nth (cut x2 x1 (Z.length : Int)) x4).Time)]) rfl rfl rfl rfl rfl ?_;clear S;intro w14 hk8 S
            refine Ld (Tn (Fg (lv S (Rm (S.tm rfl)) rfl ?_)));clear S;intro a S
            refine lv S (rn_add (S.tm rfl) rfl) rfl ?_;clear S;intro a S
            refine lv S (Ra (S.tm rfl)) rfl ?_;clear S;intro a S
            refine Ld (Tn ?_)
            exact ⟨(x2.set x3.toNat (nth (cut x2 x1 (Z.length : Int)) x4)), W (x3 + 1), h, S.nf [true] rfl (subR rfl)⟩
           ·replace h := iteF h hb5
            refine wp_skip (Tn ?_)
            exact ⟨x2, x3, h, S.nf [true] rfl (subR rfl)⟩
          clear S h;rintro a w12 ⟨x7, x8, h, S⟩;rw [hj8] at h;clear hj8 j4
          refine blk_n (Tn ?_)
          exact ⟨x7, x8, h, S.nf [true] rfl (subR rfl)⟩
         clear S h;rintro a w8 ⟨x5, x6, h, S⟩;rw [hj3] at h;clear hj3 j3
         refine Tn (Fg (lv S (Rm (S.tm rfl)) rfl ?_));clear S;intro a S
         refine lv S (rn_add (S.tm rfl) rfl) rfl ?_;clear S;intro a S
         refine lv S (Ra (S.tm rfl)) rfl ?_;clear S;intro a S
         refine Ld (Tn ?_)
         exact ⟨m2, ⟨x5, x6, W (x4 + 1), h, S.nf [true] rfl ⟨rfl, rfl, rfl, rfl, rfl, trivial⟩⟩, Nat.lt_succ_self _⟩
        ·replace h := iteF h hb4
         refine wp_exit (then_x (then_x (x_same (Tn ?_))))
         exact ⟨x2, x3, h, S.nf [true] rfl (subR rfl)⟩
      clear S h;rintro a w7 ⟨x2, x3, h, S⟩;rw [hj2] at h;clear hj2 j2
      refine Tn (Fs (Fg (lv S (Rm (S.tm rfl)) rfl ?_)));clear S;intro a S
      refine lv S (Rm (S.tm rfl)) rfl ?_;clear S;intro a S
      obtain ⟨hc8, h⟩ := chkE h
      obtain ⟨u2, hu2, hr12⟩ := rn_subl (a := a) (x := .tmp 59) (y := .tmp 60) (ty := 26) sl_26 S (i := 0) rfl (S.tm rfl) (S.tm rfl) hc8
      refine lv S (hr12 _) rfl ?_;clear S;intro a S
      clear hr12
      refine l_clear (zl := x3) (zh := (x2.length : Int)) (z := (GStep.mk 0 0 k_empty k_empty k_empty k_empty 0 0)) sl_26 rfl GStep.enc_ok S (i := 0) rfl hu2 (S.tm rfl) Tryz.zeroValue39 rfl ?_;clear S;intro w15 hk9 S
      refine Ld (Tn (Fs (Fg (lv S (Rm (S.tm rfl)) rfl ?_))));clear S;intro a S
      refine lv S (Rm (S.tm rfl)) rfl ?_;clear S;intro a S
      obtain ⟨hc9, h⟩ := chkE h
      obtain ⟨u3, hu3, hr13⟩ := rn_subh (a := a) (x := .tmp 62) (y' := .tmp 63) (ty := 26) sl_26 S (i := 0) rfl (S.tm rfl) (S.tm rfl) hc9
      refine lv S (hr13 _) rfl ?_;clear S;intro a S
      clear hr13
      refine lv S (Ra (S.tm rfl)) rfl ?_;clear S;intro a S
      refine Ld (Tn (wp_ret (blk_r (then_r (then_r (blk_r ?_))))))
      refine then_r (then_r ?_)
      obtain ⟨S, hz1⟩ := S.ownCut (zh := x3) GStep.enc_ok (i := 0) rfl hu3
      obtain rfl := Option.some.inj h
      exact f_ret S Tryz.results22 rfl ⟨(S.holds _ (List.mem_of_getElem? (i := 0) rfl)), (SubV.block hu3)⟩
     ·replace h := iteF h hb3
      refine wp_skip (blk_n (Tn (Fg (lv S (Rm (S.tm rfl)) rfl ?_))));clear S;intro a S
      refine lv S (rn_add (S.tm rfl) rfl) rfl ?_;clear S;intro a S
      refine lv S (Ra (S.tm rfl)) rfl ?_;clear S;intro a S
      refine Ld (Tn ?_)
      exact ⟨m1, ⟨W (x1 + 1), h, S.nf [true] rfl ⟨rfl, rfl, rfl, trivial⟩⟩, Nat.lt_succ_self _⟩
    ·replace h := iteF h hb2
     refine wp_exit (then_x (then_x (x_same (Tn ?_))))
     exact ⟨h, S.nf [true] rfl ⟨rfl, trivial⟩⟩
  clear S h;rintro a w2 ⟨h, S⟩;rw [hj1] at h;clear hj1 j1
  refine Tn (Fs (Fg (lv S (Rm (S.tm rfl)) rfl ?_)));clear S;intro a S
  refine lv S (Ra (S.tm rfl)) rfl ?_;clear S;intro a S
  refine Ld (Tn (wp_ret ?_))
  obtain rfl := Option.some.inj h
  exact f_ret S Tryz.results22 rfl ⟨(S.holds _ (List.mem_of_getElem? (i := 0) rfl)), rfl⟩
theorem Stream_Steps_ok (w : World) (O : Nat) (U : Value) (Ae : List Int) (Ad : Slc (view w [O]) 1 U (Ae.map eInt)) (Ab : Int) (Aw : (LEnt.blk O [U, iV Ab] 25).holds w) (Ao : Int) (r : (List GStep) × Int) (h : Stream_Steps Ae Ab Ao = some r) :
    Calls Tryz.prog 4 [.pointer (some ⟨O, 0, none⟩), iV Ao].toArray w (Ret w [O] fun τ v w' => (LEnt.blk O [U, iV r.2] 25).holds w' ∧ OwnV τ 39 8 v r.1.length (r.1.flatMap GStep.enc)) := by
 refine f_enter [O] [.blk O [U, iV Ab] 25] Tryz.func4 rfl Tryz.ntmps4 rfl (fun e he => by simp only [List.mem_singleton] at he;subst he;exact Aw) (by simp [fps, LEnt.fp]) (by simp [fps, LEnt.fp]) fun a S => ?_
 unfold Stream_Steps at h
 replace S := S.nk [.blk O [U, iV Ab] 25] [(0, .pointer (some ⟨O, 0, none⟩)), (1, iV Ao)] [true] rfl (subR rfl)
 refine Fs (Fg (lv S (Ra rfl) rfl ?_));clear S;intro a S
 refine Ld (Tn (Fs (Fg (lv S (Ra rfl) rfl ?_))));clear S;intro a S
 replace S := S.nil 39 8
 refine Ld (Tn (Fs (Fg (lv S (Ra rfl) rfl ?_))));clear S;intro a S
 refine Ld (Tn (Fs (Fs (Fg (lv S (Rm (S.tm rfl)) rfl ?_)))));clear S;intro a S
 refine lv S (Rm rfl) rfl ?_;clear S;intro a S
 refine Ld (Tn ?_)
 replace S := S.nk [.own (.slice none 0 0) 39 8 ([] : List GStep).length (([] : List GStep).flatMap GStep.enc), .blk O [U, iV Ab] 25] [(0, .pointer (some ⟨O, 0, none⟩)), (5, (.slice none 0 0)), (6, iV 0), (8, iV Ao), (9, iV 0)] [true, true] rfl (subR rfl)
 obtain ⟨j1, hj1, h⟩ := joinE h
 refine f_join (fun a w' => ∃ x1 : List GStep, ∃ x2 : Int, ∃ v1 : Value, j1 x1 x2 = some r ∧ Sx w [O] nov [.own v1 39 8 x1.length (x1.flatMap GStep.enc), .blk O [U, iV x2] 25] [(5, v1)] 83 a w') ?_ ?_
 ·refine wp_block (f_loop (fun (m1 : Nat) a w' => ∃ x1 : List GStep, ∃ x2 : Int, ∃ x3 : Int, ∃ x4 : Int, ∃ v1 : Value, Stream_Steps_l1 Ao Ae j1 m1 x1 x2 x3 x4 = some r ∧ Sx w [O] nov [.own v1 39 8 x1.length (x1.flatMap GStep.enc), .blk O [U, iV x2] 25] [(0, .pointer (some ⟨O, 0, none⟩)), (5, v1), (6, iV x3), (8, iV Ao), (9, iV x4)] 83 a w') id ((Ao - 0).toNat + 2) ⟨([] : List GStep), Ab, 0, 0, (.slice none 0 0), h, S.nf [true, true] rfl (subR rfl)⟩ ?_)
  clear S h;rintro m1 a w1 ⟨x1, x2, x3, x4, v1, h, S⟩
  cases m1 with
  | zero => rw [Stream_Steps_l1.eq_1] at h;cases h
  | succ m1 =>
   rw [Stream_Steps_l1.eq_2] at h
   refine Fs (Fg (lv S (rn_lss (S.tm rfl) (S.tm rfl)) rfl ?_));clear S;intro a S
   refine Ld (Tn (Fs (f_cond (S.tm rfl) (fun hb1 => ?_) (fun hb1 => ?_))))
   ·replace h := iteT h hb1
    refine wp_skip (Tn (Fs (wp_block (Fs (Fg (lv S (Rm (S.tm rfl)) rfl ?_))))));clear S;intro a S
    refine lv S (Rm (S.tm rfl)) rfl ?_;clear S;intro a S
    refine l_buildSlice S Tryz.underlying22 Tryz.sizeOf3 Tryz.zeroValue3 rfl rfl (pv := [(0, iV 0), (1, iV 1), (2, iV 1), (3, iV 5)]) ⟨rfl, rfl, rfl, rfl, rfl, rfl, rfl, rfl, trivial⟩ (cs := [iV 0, iV 1, iV 1, iV 5]) (by kernel_rfl) rfl ?_;clear S;intro a w3 b1 hz1 hk1 S
    obtain ⟨r1, hr1, h⟩ := bindE h
    refine l_enter1 2 S (b := O) rfl rfl (fun _ => .blk O [U, iV r1.2] 25) (fun _ => run_call (vs := [.pointer (some ⟨O, 0, none⟩), .slice (some ⟨b1, 0, none⟩) 4 4]) ⟨(S.tm rfl), (S.tm rfl), trivial⟩ Tryz.call14) (Stream_Pick_ok _ O U Ae (Ad.mono (S.le_arg (fp_sub (i := 2) (e := .blk O [U, iV x2] 25) rfl))) x2 (S.holds _ (List.mem_of_getElem? (i := 2) rfl)) (.slice (some ⟨b1, 0, none⟩) 4 4) [0, 1, 1, 5] (lit_slcT enc_int S (i := 0) rfl rfl rfl rfl ((ne_fp (i := 2) (j := 0) (e := .blk O [U, iV x2] 25) (e' := .blk b1 [iV 0, iV 1, iV 1, iV 5] 3) S rfl rfl rfl) _ rfl)) _ hr1) rfl (fun _ _ _ h => ⟨h.1, fun _ hc => by cases hc;rfl⟩) ?_;clear S;intro v2 a w4 hv1 hk2 hn1 S
    replace hv1 := hv1.2
    subst hv1
    refine lv S (rn_add (S.tm rfl) (S.tm rfl)) rfl ?_;clear S;intro a S
    refine lv S (Ra (S.tm rfl)) rfl ?_;clear S;intro a S
    refine Ld (Tn (Fs (Fg (lv S (Rm (S.tm rfl)) rfl ?_))));clear S;intro a S
    refine lv S (Rm (S.tm rfl)) rfl ?_;clear S;intro a S
    obtain ⟨r2, hr2, h⟩ := bindE h
    refine l_enter1 2 S (b := O) rfl rfl (fun _ => .blk O [U, iV r2.2] 25) (fun _ => run_call (vs := [.pointer (some ⟨O, 0, none⟩), iV (W (x3 + r1.1))]) ⟨(S.tm rfl), (S.tm rfl), trivial⟩ Tryz.call15) (Stream_SwumStep_ok _ O U Ae (Ad.mono (S.le_arg (fp_sub (i := 2) (e := .blk O [U, iV r1.2] 25) rfl))) r1.2 (S.holds _ (List.mem_of_getElem? (i := 2) rfl)) (W (x3 + r1.1)) _ hr2) rfl (fun _ _ _ h => ⟨h.1, fun _ hc => by cases hc;rfl⟩) ?_;clear S;intro v3 a w5 hv2 hk3 hn2 S
    replace hv2 := hv2.2
    subst hv2
    refine l_alloc S Tryz.zeroValue39 (cs := [iV 0, iV 0, sV k_empty, sV k_empty, sV k_empty, sV k_empty, iV 0, iV 0]) rfl rfl ?_;clear S;intro a w6 b2 hz2 hk4 S
    refine l_store S (S.tm rfl) (S.tm rfl) (i := 0) (off := 0) rfl Tryz.sizeOf39 (vs := (GStep.enc r2.1)) rfl rfl rfl rfl ?_;clear S;intro w7 hk5 S
    refine Ld ?_
    replace S := S.nk [.blk b2 (GStep.enc r2.1) 39, .own v1 39 8 x1.length (x1.flatMap GStep.enc), .blk O [U, iV r2.2] 25] [(0, .pointer (some ⟨O, 0, none⟩)), (5, v1), (6, iV (W (x3 + r1.1))), (7, .pointer (some ⟨b2, 0, none⟩)), (8, iV Ao), (9, iV x4)] [true, false, true, true] rfl (subR rfl)
    refine Tn (Fs (Fs (Fg (lv S (Rm (S.tm rfl)) rfl ?_))));clear S;intro a S
    obtain ⟨r3, hr3, h⟩ := bindE h
    refine l_enter1 2 S (b := O) rfl rfl (fun _ => .blk O [U, iV r3.2] 25) (fun _ => run_call (vs := [.pointer (some ⟨O, 0, none⟩), iV 3]) ⟨(S.tm rfl), rfl, trivial⟩ Tryz.call16) (Stream_Flip_ok _ O U Ae (Ad.mono (S.le_arg (fp_sub (i := 2) (e := .blk O [U, iV r2.2] 25) rfl))) r2.2 (S.holds _ (List.mem_of_getElem? (i := 2) rfl)) 3 _ hr3) rfl (fun _ _ _ h => ⟨h.1, fun _ hc => by cases hc;rfl⟩) ?_;clear S;intro v4 a w8 hv3 hk6 hn3 S
    replace hv3 := hv3.2
    subst hv3
    refine Ld (Tn ?_)
    obtain ⟨j2, hj2, h⟩ := joinE h
    refine f_join (fun a w' => ∃ x5 : Int, ∃ x6 : Int, ∃ x7 : ByteArray, ∃ x8 : ByteArray, ∃ x9 : ByteArray, ∃ x10 : Int, ∃ x11 : Int, ∃ x12 : Int, j2 x5 x6 x7 x8 x9 x10 x11 x12 = some r ∧ Sx w [O] nov [.blk b2 (GStep.enc (GStep.mk x5 x6 r2.1.Id x7 x8 x9 x10 x11)) 39, .own v1 39 8 x1.length (x1.flatMap GStep.enc), .blk O [U, iV x12] 25] [(0, .pointer (some ⟨O, 0, none⟩)), (5, v1), (6, iV (W (x3 + r1.1))), (7, .pointer (some ⟨b2, 0, none⟩)), (8, iV Ao), (9, iV x4)] 83 a w') ?_ ?_
    ·refine f_cond (S.tm rfl) (fun hb2 => ?_) (fun hb2 => ?_)
     ·replace h := iteT h hb2
      obtain ⟨r4, hr4, h⟩ := bindE h
      refine d_region [7] ([O]) Tryz.mixed S rfl (by kernel_rfl) ?_;clear S;intro w13 hk10 hsel S
      refine d_pure 0 S hsel rfl rfl (by kernel_rfl) (by kernel_rfl) rfl (fun _ => (Rm (S.tm rfl))) ?_;clear S;intro a S
      refine d_pure 1 S hsel rfl rfl (by kernel_rfl) (by kernel_rfl) rfl (fun _ => (Rm (S.tm rfl))) ?_;clear S;intro a S
      refine d_pure 4 S hsel rfl rfl (by kernel_rfl) (by kernel_rfl) rfl (fun _ => (rn_fld fa_39_2 (S.tm rfl))) ?_;clear S;intro a S
      refine d_quiet 5 S hsel rfl (by kernel_rfl) (by kernel_rfl) (by kernel_rfl) (by kernel_rfl) rfl (fun _ hw => (rn_ld Tryz.isAgg9 (off := 0) (o := 2) (S.tm rfl) ((S.blk_mem (i := 0) (cells := (GStep.enc r2.1)) (b := b2) (T := 39) rfl (ne_fp (i := 2) (j := 0) (e := .blk O [U, iV r3.2] 25) (e' := .blk b2 (GStep.enc r2.1) 39) S rfl rfl rfl)).kept hw) rfl)) ?_;clear S;intro a S
      refine d_loud1 2 (by kernel_rfl) rfl (l_buildSlice S Tryz.underlying22 Tryz.sizeOf3 Tryz.zeroValue3 rfl rfl (pv := [(0, iV 2), (1, iV 3)]) ⟨rfl, rfl, rfl, rfl, trivial⟩ (cs := [iV 2, iV 3]) (by kernel_rfl) rfl ?_);clear S;intro a w14 b4 hz4 hk11 S
      refine Ld (d_next (Keep.none hk11) (d_loud1 3 (by kernel_rfl) rfl ?_))
      refine l_enter1 3 S (b := O) rfl rfl (fun _ => .blk O [U, iV r4.2] 25) (fun _ => run_call (vs := [.pointer (some ⟨O, 0, none⟩), .slice (some ⟨b4, 0, none⟩) 2 2]) ⟨(S.tm rfl), (S.tm rfl), trivial⟩ Tryz.call14) (Stream_Pick_ok _ O U Ae (Ad.mono (S.le_arg (fp_sub (i := 3) (e := .blk O [U, iV r3.2] 25) rfl))) r3.2 (S.holds _ (List.mem_of_getElem? (i := 3) rfl)) (.slice (some ⟨b4, 0, none⟩) 2 2) [2, 3] (lit_slcT enc_int S (i := 0) rfl rfl rfl rfl ((ne_fp (i := 3) (j := 0) (e := .blk O [U, iV r3.2] 25) (e' := .blk b4 [iV 2, iV 3] 3) S rfl rfl rfl) _ rfl)) _ hr4) rfl (fun _ _ _ h => ⟨h.1, fun _ hc => by cases hc;rfl⟩) ?_;clear S;intro v6 a w15 hv5 hk12 hn5 S
      replace hv5 := hv5.2
      subst hv5
      refine Ld (d_next hk12 (d_pure 6 S hsel rfl rfl (by kernel_rfl) (by kernel_rfl) rfl (fun _ => (rn_bld bt_39 (pv := [(0, iV (W (x3 + r1.1))), (1, iV r4.1), (2, sV r2.1.Id)]) ⟨rfl, (S.tm rfl), rfl, (S.tm rfl), rfl, (S.tm rfl), trivial⟩ (cs := [iV (W (x3 + r1.1)), iV r4.1, sV r2.1.Id, sV k_empty, sV k_empty, sV k_empty, iV 0, iV 0]) (by kernel_rfl))) ?_));clear S;intro a S
      refine d_loudB 7 ([O] ++ [b2]) rfl (by kernel_rfl) rfl (l_store S (S.tm rfl) (S.tm rfl) (i := 1) (off := 0) rfl Tryz.sizeOf39 (vs := (GStep.enc (GStep.mk (W (x3 + r1.1)) r4.1 r2.1.Id k_empty k_empty k_empty 0 0))) rfl rfl rfl rfl ?_);clear S;intro w16 hk13 S
      refine Ld (d_nextB (d_end (by kernel_rfl) ?_))
      clear hsel
      replace S := S.nk [.blk b2 (GStep.enc (GStep.mk (W (x3 + r1.1)) r4.1 r2.1.Id k_empty k_empty k_empty 0 0)) 39, .own v1 39 8 x1.length (x1.flatMap GStep.enc), .blk O [U, iV r4.2] 25] [(0, .pointer (some ⟨O, 0, none⟩)), (5, v1), (6, iV (W (x3 + r1.1))), (7, .pointer (some ⟨b2, 0, none⟩)), (8, iV Ao), (9, iV x4)] [false, true, true, true] rfl (subR rfl)
      refine Tn ?_
      exact ⟨W (x3 + r1.1), r4.1, k_empty, k_empty, k_empty, 0, 0, r4.2, h, S.nf [true, true, true] rfl (subR rfl)⟩
     ·replace h := iteF h hb2
      refine wp_skip (Tn ?_)
      exact ⟨r2.1.At, r2.1.Kind, r2.1.Who, r2.1.Club, r2.1.Race, r2.1.Age, r2.1.Time, r3.2, h, S.nf [true, true, true] rfl (subR rfl)⟩
    clear S h;rintro a w9 ⟨x5, x6, x7, x8, x9, x10, x11, x12, h, S⟩;rw [hj2] at h;clear hj2 j2
    refine Tn (Fs (Fs (Fg (lv S (Rm (S.tm rfl)) rfl ?_))));clear S;intro a S
    obtain ⟨r5, hr5, h⟩ := bindE h
    refine l_enter1 2 S (b := O) rfl rfl (fun _ => .blk O [U, iV r5.2] 25) (fun _ => run_call (vs := [.pointer (some ⟨O, 0, none⟩), iV 80]) ⟨(S.tm rfl), rfl, trivial⟩ Tryz.call16) (Stream_Flip_ok _ O U Ae (Ad.mono (S.le_arg (fp_sub (i := 2) (e := .blk O [U, iV x12] 25) rfl))) x12 (S.holds _ (List.mem_of_getElem? (i := 2) rfl)) 80 _ hr5) rfl (fun _ _ _ h => ⟨h.1, fun _ hc => by cases hc;rfl⟩) ?_;clear S;intro v7 a w17 hv6 hk14 hn6 S
    replace hv6 := hv6.2
    subst hv6
    refine Ld (Tn ?_)
    obtain ⟨j3, hj3, h⟩ := joinE h
    refine f_join (fun a w' => ∃ x13 : Int, ∃ x14 : Int, ∃ x15 : ByteArray, ∃ x16 : ByteArray, ∃ x17 : ByteArray, ∃ x18 : ByteArray, ∃ x19 : Int, ∃ x20 : Int, ∃ x21 : Int, j3 x13 x14 x15 x16 x17 x18 x19 x20 x21 = some r ∧ Sx w [O] nov [.blk b2 (GStep.enc (GStep.mk x13 x14 x15 x16 x17 x18 x19 x20)) 39, .own v1 39 8 x1.length (x1.flatMap GStep.enc), .blk O [U, iV x21] 25] [(0, .pointer (some ⟨O, 0, none⟩)), (5, v1), (6, iV (W (x3 + r1.1))), (7, .pointer (some ⟨b2, 0, none⟩)), (8, iV Ao), (9, iV x4)] 83 a w') ?_ ?_
    ·refine f_cond (S.tm rfl) (fun hb3 => ?_) (fun hb3 => ?_)
     ·replace h := iteT h hb3
      refine Fs (Fg (lv S (Rm (S.tm rfl)) rfl ?_));clear S;intro a S
      obtain ⟨r6, hr6, h⟩ := bindE h
      refine l_enter1 2 S (b := O) rfl rfl (fun _ => .blk O [U, iV r6.2] 25) (fun _ => run_call (vs := [.pointer (some ⟨O, 0, none⟩), iV 4]) ⟨(S.tm rfl), rfl, trivial⟩ Tryz.call17) (Stream_Next_ok _ O U Ae (Ad.mono (S.le_arg (fp_sub (i := 2) (e := .blk O [U, iV r5.2] 25) rfl))) r5.2 (S.holds _ (List.mem_of_getElem? (i := 2) rfl)) 4 _ hr6) rfl (fun _ _ _ h => ⟨h.1, fun _ hc => by cases hc;rfl⟩) ?_;clear S;intro v8 a w19 hv7 hk15 hn7 S
      replace hv7 := hv7.2
      subst hv7
      refine Ld (Tn ?_)
      obtain ⟨j4, hj4, h⟩ := joinE h
      refine f_join (fun a w' => ∃ x22 : Int, ∃ x23 : Int, ∃ x24 : ByteArray, ∃ x25 : ByteArray, ∃ x26 : ByteArray, ∃ x27 : ByteArray, ∃ x28 : Int, ∃ x29 : Int, ∃ x30 : Int, j4 x22 x23 x24 x25 x26 x27 x28 x29 x30 = some r ∧ Sx w [O] nov [.blk b2 (GStep.enc (GStep.mk x22 x23 x24 x25 x26 x27 x28 x29)) 39, .own v1 39 8 x1.length (x1.flatMap GStep.enc), .blk O [U, iV x30] 25] [(0, .pointer (some ⟨O, 0, none⟩)), (5, v1), (6, iV (W (x3 + r1.1))), (7, .pointer (some ⟨b2, 0, none⟩)), (8, iV Ao), (9, iV x4)] 83 a w') ?_ ?_
      ·refine wp_block (Fs (Fg (lv S (rn_eql (S.tm rfl) rfl) rfl ?_)));clear S;intro a S
       refine lv S (Ra (S.tm rfl)) rfl ?_;clear S;intro a S
       refine Ld (Tn ?_)
       obtain ⟨j5, hj5, h⟩ := joinE h
       refine f_join (fun a w' => ∃ x31 : Int, ∃ x32 : Int, ∃ x33 : ByteArray, ∃ x34 : ByteArray, ∃ x35 : ByteArray, ∃ x36 : ByteArray, ∃ x37 : Int, ∃ x38 : Int, ∃ x39 : Int, j5 x31 x32 x33 x34 x35 x36 x37 x38 x39 = some r ∧ Sx w [O] nov [.blk b2 (GStep.enc (GStep.mk x31 x32 x33 x34 x35 x36 x37 x38)) 39, .own v1 39 8 x1.length (x1.flatMap GStep.enc), .blk O [U, iV x39] 25] [(0, .pointer (some ⟨O, 0, none⟩)), (5, v1), (6, iV (W (x3 + r1.1))), (7, .pointer (some ⟨b2, 0, none⟩)), (8, iV Ao), (9, iV x4)] 83 a w') ?_ ?_
       ·refine f_cond (S.tm rfl) (fun hb4 => ?_) (fun hb4 => ?_)
        ·replace h := iteT h hb4
         refine Fg (lv S (Rm (S.tm rfl)) rfl ?_);clear S;intro a S
         obtain ⟨r7, hr7, h⟩ := bindE h
         refine l_enter1 2 S (b := O) rfl rfl (fun _ => .blk O [U, iV r7.2] 25) (fun _ => run_call (vs := [.pointer (some ⟨O, 0, none⟩), iV 0, iV 50]) ⟨(S.tm rfl), rfl, rfl, trivial⟩ Tryz.call18) (Stream_Odd_ok _ O U Ae (Ad.mono (S.le_arg (fp_sub (i := 2) (e := .blk O [U, iV r6.2] 25) rfl))) r6.2 (S.holds _ (List.mem_of_getElem? (i := 2) rfl)) 0 50 _ hr7) rfl (fun _ _ _ h => ⟨h.1, fun _ hc => by cases hc;rfl⟩) ?_;clear S;intro v9 a w22 hv8 hk16 hn8 S
         replace hv8 := hv8.2
         subst hv8
         refine lv S (Rm (S.tm rfl)) rfl ?_;clear S;intro a S
         obtain ⟨r8, hr8, h⟩ := bindE h
         refine l_enter1 2 S (b := O) rfl rfl (fun _ => .blk O [U, iV r8.2] 25) (fun _ => run_call (vs := [.pointer (some ⟨O, 0, none⟩), iV 1, iV 3]) ⟨(S.tm rfl), rfl, rfl, trivial⟩ Tryz.call18) (Stream_Odd_ok _ O U Ae (Ad.mono (S.le_arg (fp_sub (i := 2) (e := .blk O [U, iV r7.2] 25) rfl))) r7.2 (S.holds _ (List.mem_of_getElem? (i := 2) rfl)) 1 3 _ hr8) rfl (fun _ _ _ h => ⟨h.1, fun _ hc => by cases hc;rfl⟩) ?_;clear S;intro v10 a w23 hv9 hk17 hn9 S
         replace hv9 := hv9.2
         subst hv9
         refine lv S (rn_fld fa_39_0 (S.tm rfl)) rfl ?_;clear S;intro a S
         refine l_store S (S.tm rfl) (S.tm rfl) (i := 0) (off := 0) rfl Tryz.sizeOf3 (vs := [iV r7.1]) rfl rfl rfl rfl ?_;clear S;intro w24 hk18 S
         refine lv S (rn_fld fa_39_1 (S.tm rfl)) rfl ?_;clear S;intro a S
         refine l_store S (S.tm rfl) (S.tm rfl) (i := 0) (off := 1) rfl Tryz.sizeOf3 (vs := [iV r8.1]) rfl rfl rfl rfl ?_;clear S;intro w25 hk19 S
         refine Ld ?_
         replace S := S.nk [.blk b2 (GStep.enc (GStep.mk r7.1 r8.1 r2.1.Id x7 x8 x9 x10 x11)) 39, .own v1 39 8 x1.length (x1.flatMap GStep.enc), .blk O [U, iV r8.2] 25] [(0, .pointer (some ⟨O, 0, none⟩)), (5, v1), (6, iV (W (x3 + r1.1))), (7, .pointer (some ⟨b2, 0, none⟩)), (8, iV Ao), (9, iV x4)] [true, true, true] rfl (subR rfl)
         refine Tn ?_
         exact ⟨r7.1, r8.1, r2.1.Id, x7, x8, x9, x10, x11, r8.2, h, S.nf [true, true, true] rfl (subR rfl)⟩
        ·replace h := iteF h hb4
         refine Fs (Fg (lv S (rn_eql (S.tm rfl) rfl) rfl ?_));clear S;intro a S
         refine lv S (Ra (S.tm rfl)) rfl ?_;clear S;intro a S
         refine Ld (Tn ?_)
         obtain ⟨j6, hj6, h⟩ := joinE h
         refine f_join (fun a w' => ∃ x40 : ByteArray, ∃ x41 : ByteArray, ∃ x42 : ByteArray, ∃ x43 : ByteArray, ∃ x44 : Int, ∃ x45 : Int, ∃ x46 : Int, j6 x40 x41 x42 x43 x44 x45 x46 = some r ∧ Sx w [O] nov [.blk b2 (GStep.enc (GStep.mk x5 x6 x40 x41 x42 x43 x44 x45)) 39, .own v1 39 8 x1.length (x1.flatMap GStep.enc), .blk O [U, iV x46] 25] [(0, .pointer (some ⟨O, 0, none⟩)), (5, v1), (6, iV (W (x3 + r1.1))), (7, .pointer (some ⟨b2, 0, none⟩)), (8, iV Ao), (9, iV x4)] 83 a w') ?_ ?_
         ·refine f_cond (S.tm rfl) (fun hb5 => ?_) (fun hb5 => ?_)
          ·replace h := iteT h hb5
           obtain ⟨j7, hj7, h⟩ := joinE h
           refine f_join (fun a w' => ∃ x47 : ByteArray, ∃ x48 : ByteArray, ∃ x49 : Int, j7 x47 x48 x49 = some r ∧ Sx w [O] nov [.blk b2 (GStep.enc (GStep.mk x5 x6 x47 x48 x8 x9 x10 x11)) 39, .own v1 39 8 x1.length (x1.flatMap GStep.enc), .blk O [U, iV x49] 25] [(0, .pointer (some ⟨O, 0, none⟩)), (5, v1), (6, iV (W (x3 + r1.1))), (7, .pointer (some ⟨b2, 0, none⟩)), (8, iV Ao), (9, iV x4)] 83 a w') ?_ ?_
           ·obtain ⟨r9, hr9, h⟩ := bindE h
            obtain ⟨r10, hr10, h⟩ := bindE h
            refine d_region [11, 13] ([O]) Tryz.mixed S rfl (by kernel_rfl) ?_;clear S;intro w34 hk26 hsel S
            refine d_pure 0 S hsel rfl rfl (by kernel_rfl) (by kernel_rfl) rfl (fun _ => (Rm (S.tm rfl))) ?_;clear S;intro a S
            refine d_pure 1 S hsel rfl rfl (by kernel_rfl) (by kernel_rfl) rfl (fun _ => (rn_fld fa_39_2 (S.tm rfl))) ?_;clear S;intro a S
            refine d_quiet 2 S hsel rfl (by kernel_rfl) (by kernel_rfl) (by kernel_rfl) (by kernel_rfl) rfl (fun _ hw => (rn_ld Tryz.isAgg9 (off := 0) (o := 2) (S.tm rfl) ((S.blk_mem (i := 0) (cells := (GStep.enc (GStep.mk x5 x6 r2.1.Id x7 x8 x9 x10 x11))) (b := b2) (T := 39) rfl (ne_fp (i := 2) (j := 0) (e := .blk O [U, iV r6.2] 25) (e' := .blk b2 (GStep.enc (GStep.mk x5 x6 r2.1.Id x7 x8 x9 x10 x11)) 39) S rfl rfl rfl)).kept hw) rfl)) ?_;clear S;intro a S
            refine d_pure 5 S hsel rfl rfl (by kernel_rfl) (by kernel_rfl) rfl (fun _ => (Rm (S.tm rfl))) ?_;clear S;intro a S
            refine d_pure 6 S hsel rfl rfl (by kernel_rfl) (by kernel_rfl) rfl (fun _ => (rn_fld fa_39_3 (S.tm rfl))) ?_;clear S;intro a S
            refine d_quiet 7 S hsel rfl (by kernel_rfl) (by kernel_rfl) (by kernel_rfl) (by kernel_rfl) rfl (fun _ hw => (rn_ld Tryz.isAgg9 (off := 0) (o := 3) (S.tm rfl) ((S.blk_mem (i := 0) (cells := (GStep.enc (GStep.mk x5 x6 r2.1.Id x7 x8 x9 x10 x11))) (b := b2) (T := 39) rfl (ne_fp (i := 2) (j := 0) (e := .blk O [U, iV r6.2] 25) (e' := .blk b2 (GStep.enc (GStep.mk x5 x6 r2.1.Id x7 x8 x9 x10 x11)) 39) S rfl rfl rfl)).kept hw) rfl)) ?_;clear S;intro a S
            refine d_loud2 3 8 (by kernel_rfl) rfl rfl ?_ ?_
            ·refine l_buildSlice S Tryz.underlying57 Tryz.sizeOf9 Tryz.zeroValue9 rfl rfl (pv := [(0, sV k_empty), (1, sV r2.1.Id), (2, sV k_A)]) ⟨rfl, rfl, rfl, (S.tm rfl), rfl, rfl, trivial⟩ (cs := [sV k_empty, sV r2.1.Id, sV k_A]) (by kernel_rfl) rfl ?_;clear S;intro a w35 b7 hz7 hk27 S
             refine Ld (d_next (Keep.none hk27) (d_loud2 4 8 (by kernel_rfl) rfl rfl ?_ ?_))
             ·refine l_enter1 3 S (b := O) rfl rfl (fun _ => .blk O [U, iV r9.2] 25) (fun _ => run_call (vs := [.pointer (some ⟨O, 0, none⟩), .slice (some ⟨b7, 0, none⟩) 3 3]) ⟨(S.tm rfl), (S.tm rfl), trivial⟩ Tryz.call19) (Stream_Some_ok _ O U Ae (Ad.mono (S.le_arg (fp_sub (i := 3) (e := .blk O [U, iV r6.2] 25) rfl))) r6.2 (S.holds _ (List.mem_of_getElem? (i := 3) rfl)) (.slice (some ⟨b7, 0, none⟩) 3 3) [k_empty, r2.1.Id, k_A] (lit_slcT enc_str S (i := 0) rfl rfl rfl rfl ((ne_fp (i := 3) (j := 0) (e := .blk O [U, iV r6.2] 25) (e' := .blk b7 [sV k_empty, sV r2.1.Id, sV k_A] 9) S rfl rfl rfl) _ rfl)) _ hr9) rfl (fun _ _ _ h => ⟨h.1, fun _ hc => by cases hc;rfl⟩) ?_;clear S;intro v13 a w36 hv12 hk28 hn12 S
              replace hv12 := hv12.2
              subst hv12
              refine Ld (d_next hk28 (d_pure 10 S hsel rfl rfl (by kernel_rfl) (by kernel_rfl) rfl (fun _ => (rn_fld fa_39_2 (S.tm rfl))) ?_));clear S;intro a S
              refine d_loud1 8 (by kernel_rfl) rfl (l_buildSlice S Tryz.underlying57 Tryz.sizeOf9 Tryz.zeroValue9 rfl rfl (pv := [(0, sV k_empty), (1, sV x7)]) ⟨rfl, rfl, rfl, (S.tm rfl), trivial⟩ (cs := [sV k_empty, sV x7]) (by kernel_rfl) rfl ?_);clear S;intro a w37 b8 hz8 hk29 S
              refine Ld (d_next (Keep.none hk29) (d_loud1 9 (by kernel_rfl) rfl ?_))
              refine l_enter1 4 S (b := O) rfl rfl (fun _ => .blk O [U, iV r10.2] 25) (fun _ => run_call (vs := [.pointer (some ⟨O, 0, none⟩), .slice (some ⟨b8, 0, none⟩) 2 2]) ⟨(S.tm rfl), (S.tm rfl), trivial⟩ Tryz.call19) (Stream_Some_ok _ O U Ae (Ad.mono (S.le_arg (fp_sub (i := 4) (e := .blk O [U, iV r9.2] 25) rfl))) r9.2 (S.holds _ (List.mem_of_getElem? (i := 4) rfl)) (.slice (some ⟨b8, 0, none⟩) 2 2) [k_empty, x7] (lit_slcT enc_str S (i := 0) rfl rfl rfl rfl ((ne_fp (i := 4) (j := 0) (e := .blk O [U, iV r9.2] 25) (e' := .blk b8 [sV k_empty, sV x7] 9) S rfl rfl rfl) _ rfl)) _ hr10) rfl (fun _ _ _ h => ⟨h.1, fun _ hc => by cases hc;rfl⟩) ?_;clear S;intro v14 a w38 hv13 hk30 hn13 S
              replace hv13 := hv13.2
              subst hv13
              refine Ld (d_next hk30 (d_loudB 11 ([O] ++ [b2]) rfl (by kernel_rfl) rfl (l_store S (S.tm rfl) (S.tm rfl) (i := 2) (off := 2) rfl Tryz.sizeOf9 (vs := [sV r9.1]) rfl rfl rfl rfl ?_)));clear S;intro w39 hk31 S
              refine Ld (d_nextB (d_quiet 12 S hsel rfl rfl rfl (by kernel_rfl) (by kernel_rfl) rfl (fun _ hw => (rn_fld fa_39_3 (S.tm rfl))) ?_));clear S;intro a S
              refine d_loud1 13 (by kernel_rfl) rfl (l_store S (S.tm rfl) (S.tm rfl) (i := 2) (off := 3) rfl Tryz.sizeOf9 (vs := [sV r10.1]) rfl rfl rfl rfl ?_);clear S;intro w40 hk32 S
              refine Ld ?_
              refine d_next (hk32.sub (by intro y hy;simp at hy ⊢;simp [hy])) ?_
              refine d_end (by kernel_rfl) ?_
              clear hsel
              replace S := S.nk [.blk b2 (GStep.enc (GStep.mk x5 x6 r9.1 r10.1 x8 x9 x10 x11)) 39, .own v1 39 8 x1.length (x1.flatMap GStep.enc), .blk O [U, iV r10.2] 25] [(0, .pointer (some ⟨O, 0, none⟩)), (5, v1), (6, iV (W (x3 + r1.1))), (7, .pointer (some ⟨b2, 0, none⟩)), (8, iV Ao), (9, iV x4)] [false, false, true, true, true] rfl (subR rfl)
              refine Tn ?_
              exact ⟨r9.1, r10.1, r10.2, h, S.nf [true, true, true] rfl (subR rfl)⟩
             ·refine l_buildSlice S Tryz.underlying57 Tryz.sizeOf9 Tryz.zeroValue9 rfl rfl (pv := [(0, sV k_empty), (1, sV x7)]) ⟨rfl, rfl, rfl, (S.tm rfl), trivial⟩ (cs := [sV k_empty, sV x7]) (by kernel_rfl) rfl ?_;clear S;intro a w41 b9 hz9 hk33 S
              refine Ld (d_next (Keep.none hk33) (d_loud1 4 (by kernel_rfl) rfl ?_))
              refine l_enter1 4 S (b := O) rfl rfl (fun _ => .blk O [U, iV r9.2] 25) (fun _ => run_call (vs := [.pointer (some ⟨O, 0, none⟩), .slice (some ⟨b7, 0, none⟩) 3 3]) ⟨(S.tm rfl), (S.tm rfl), trivial⟩ Tryz.call19) (Stream_Some_ok _ O U Ae (Ad.mono (S.le_arg (fp_sub (i := 4) (e := .blk O [U, iV r6.2] 25) rfl))) r6.2 (S.holds _ (List.mem_of_getElem? (i := 4) rfl)) (.slice (some ⟨b7, 0, none⟩) 3 3) [k_empty, r2.1.Id, k_A] (lit_slcT enc_str S (i := 1) rfl rfl rfl rfl ((ne_fp (i := 4) (j := 1) (e := .blk O [U, iV r6.2] 25) (e' := .blk b7 [sV k_empty, sV r2.1.Id, sV k_A] 9) S rfl rfl rfl) _ rfl)) _ hr9) rfl (fun _ _ _ h => ⟨h.1, fun _ hc => by cases hc;rfl⟩) ?_;clear S;intro v15 a w42 hv14 hk34 hn14 S
              replace hv14 := hv14.2
              subst hv14
              refine Ld (d_next hk34 (d_pure 10 S hsel rfl rfl (by kernel_rfl) (by kernel_rfl) rfl (fun _ => (rn_fld fa_39_2 (S.tm rfl))) ?_));clear S;intro a S
              refine d_loud1 9 (by kernel_rfl) rfl ?_
              refine l_enter1 4 S (b := O) rfl rfl (fun _ => .blk O [U, iV r10.2] 25) (fun _ => run_call (vs := [.pointer (some ⟨O, 0, none⟩), .slice (some ⟨b9, 0, none⟩) 2 2]) ⟨(S.tm rfl), (S.tm rfl), trivial⟩ Tryz.call19) (Stream_Some_ok _ O U Ae (Ad.mono (S.le_arg (fp_sub (i := 4) (e := .blk O [U, iV r9.2] 25) rfl))) r9.2 (S.holds _ (List.mem_of_getElem? (i := 4) rfl)) (.slice (some ⟨b9, 0, none⟩) 2 2) [k_empty, x7] (lit_slcT enc_str S (i := 0) rfl rfl rfl rfl ((ne_fp (i := 4) (j := 0) (e := .blk O [U, iV r9.2] 25) (e' := .blk b9 [sV k_empty, sV x7] 9) S rfl rfl rfl) _ rfl)) _ hr10) rfl (fun _ _ _ h => ⟨h.1, fun _ hc => by cases hc;rfl⟩) ?_;clear S;intro v16 a w43 hv15 hk35 hn15 S
              replace hv15 := hv15.2
              subst hv15
              refine Ld (d_next hk35 (d_loudB 11 ([O] ++ [b2]) rfl (by kernel_rfl) rfl (l_store S (S.tm rfl) (S.tm rfl) (i := 2) (off := 2) rfl Tryz.sizeOf9 (vs := [sV r9.1]) rfl rfl rfl rfl ?_)));clear S;intro w44 hk36 S
              refine Ld (d_nextB (d_quiet 12 S hsel rfl rfl rfl (by kernel_rfl) (by kernel_rfl) rfl (fun _ hw => (rn_fld fa_39_3 (S.tm rfl))) ?_));clear S;intro a S
              refine d_loud1 13 (by kernel_rfl) rfl (l_store S (S.tm rfl) (S.tm rfl) (i := 2) (off := 3) rfl Tryz.sizeOf9 (vs := [sV r10.1]) rfl rfl rfl rfl ?_);clear S;intro w45 hk37 S
              refine Ld ?_
              refine d_next (hk37.sub (by intro y hy;simp at hy ⊢;simp [hy])) ?_
              refine d_end (by kernel_rfl) ?_
              clear hsel
              replace S := S.nk [.blk b2 (GStep.enc (GStep.mk x5 x6 r9.1 r10.1 x8 x9 x10 x11)) 39, .own v1 39 8 x1.length (x1.flatMap GStep.enc), .blk O [U, iV r10.2] 25] [(0, .pointer (some ⟨O, 0, none⟩)), (5, v1), (6, iV (W (x3 + r1.1))), (7, .pointer (some ⟨b2, 0, none⟩)), (8, iV Ao), (9, iV x4)] [false, false, true, true, true] rfl (subR rfl)
              refine Tn ?_
              exact ⟨r9.1, r10.1, r10.2, h, S.nf [true, true, true] rfl (subR rfl)⟩
            ·refine l_buildSlice S Tryz.underlying57 Tryz.sizeOf9 Tryz.zeroValue9 rfl rfl (pv := [(0, sV k_empty), (1, sV x7)]) ⟨rfl, rfl, rfl, (S.tm rfl), trivial⟩ (cs := [sV k_empty, sV x7]) (by kernel_rfl) rfl ?_;clear S;intro a w46 b10 hz10 hk38 S
             refine Ld (d_next (Keep.none hk38) (d_loud1 3 (by kernel_rfl) rfl (l_buildSlice S Tryz.underlying57 Tryz.sizeOf9 Tryz.zeroValue9 rfl rfl (pv := [(0, sV k_empty), (1, sV r2.1.Id), (2, sV k_A)]) ⟨rfl, rfl, rfl, (S.tm rfl), rfl, rfl, trivial⟩ (cs := [sV k_empty, sV r2.1.Id, sV k_A]) (by kernel_rfl) rfl ?_)));clear S;intro a w47 b11 hz11 hk39 S
             refine Ld (d_next (Keep.none hk39) (d_loud1 4 (by kernel_rfl) rfl ?_))
             refine l_enter1 4 S (b := O) rfl rfl (fun _ => .blk O [U, iV r9.2] 25) (fun _ => run_call (vs := [.pointer (some ⟨O, 0, none⟩), .slice (some ⟨b11, 0, none⟩) 3 3]) ⟨(S.tm rfl), (S.tm rfl), trivial⟩ Tryz.call19) (Stream_Some_ok _ O U Ae (Ad.mono (S.le_arg (fp_sub (i := 4) (e := .blk O [U, iV r6.2] 25) rfl))) r6.2 (S.holds _ (List.mem_of_getElem? (i := 4) rfl)) (.slice (some ⟨b11, 0, none⟩) 3 3) [k_empty, r2.1.Id, k_A] (lit_slcT enc_str S (i := 0) rfl rfl rfl rfl ((ne_fp (i := 4) (j := 0) (e := .blk O [U, iV r6.2] 25) (e' := .blk b11 [sV k_empty, sV r2.1.Id, sV k_A] 9) S rfl rfl rfl) _ rfl)) _ hr9) rfl (fun _ _ _ h => ⟨h.1, fun _ hc => by cases hc;rfl⟩) ?_;clear S;intro v17 a w48 hv16 hk40 hn16 S
             replace hv16 := hv16.2
             subst hv16
             refine Ld (d_next hk40 (d_pure 10 S hsel rfl rfl (by kernel_rfl) (by kernel_rfl) rfl (fun _ => (rn_fld fa_39_2 (S.tm rfl))) ?_));clear S;intro a S
             refine d_loud1 9 (by kernel_rfl) rfl ?_
             refine l_enter1 4 S (b := O) rfl rfl (fun _ => .blk O [U, iV r10.2] 25) (fun _ => run_call (vs := [.pointer (some ⟨O, 0, none⟩), .slice (some ⟨b10, 0, none⟩) 2 2]) ⟨(S.tm rfl), (S.tm rfl), trivial⟩ Tryz.call19) (Stream_Some_ok _ O U Ae (Ad.mono (S.le_arg (fp_sub (i := 4) (e := .blk O [U, iV r9.2] 25) rfl))) r9.2 (S.holds _ (List.mem_of_getElem? (i := 4) rfl)) (.slice (some ⟨b10, 0, none⟩) 2 2) [k_empty, x7] (lit_slcT enc_str S (i := 1) rfl rfl rfl rfl ((ne_fp (i := 4) (j := 1) (e := .blk O [U, iV r9.2] 25) (e' := .blk b10 [sV k_empty, sV x7] 9) S rfl rfl rfl) _ rfl)) _ hr10) rfl (fun _ _ _ h => ⟨h.1, fun _ hc => by cases hc;rfl⟩) ?_;clear S;intro v18 a w49 hv17 hk41 hn17 S
             replace hv17 := hv17.2
             subst hv17
             refine Ld (d_next hk41 (d_loudB 11 ([O] ++ [b2]) rfl (by kernel_rfl) rfl (l_store S (S.tm rfl) (S.tm rfl) (i := 2) (off := 2) rfl Tryz.sizeOf9 (vs := [sV r9.1]) rfl rfl rfl rfl ?_)));clear S;intro w50 hk42 S
             refine Ld (d_nextB (d_quiet 12 S hsel rfl rfl rfl (by kernel_rfl) (by kernel_rfl) rfl (fun _ hw => (rn_fld fa_39_3 (S.tm rfl))) ?_));clear S;intro a S
             refine d_loud1 13 (by kernel_rfl) rfl (l_store S (S.tm rfl) (S.tm rfl) (i := 2) (off := 3) rfl Tryz.sizeOf9 (vs := [sV r10.1]) rfl rfl rfl rfl ?_);clear S;intro w51 hk43 S
             refine Ld ?_
             refine d_next (hk43.sub (by intro y hy;simp at hy ⊢;simp [hy])) ?_
             refine d_end (by kernel_rfl) ?_
             clear hsel
             replace S := S.nk [.blk b2 (GStep.enc (GStep.mk x5 x6 r9.1 r10.1 x8 x9 x10 x11)) 39, .own v1 39 8 x1.length (x1.flatMap GStep.enc), .blk O [U, iV r10.2] 25] [(0, .pointer (some ⟨O, 0, none⟩)), (5, v1), (6, iV (W (x3 + r1.1))), (7, .pointer (some ⟨b2, 0, none⟩)), (8, iV Ao), (9, iV x4)] [false, false, true, true, true] rfl (subR rfl)
             refine Tn ?_
             exact ⟨r9.1, r10.1, r10.2, h, S.nf [true, true, true] rfl (subR rfl)⟩
           clear S h;rintro a w27 ⟨x47, x48, x49, h, S⟩;rw [hj7] at h;clear hj7 j7
           refine Tn ?_
           exact ⟨x47, x48, x8, x9, x10, x11, x49, h, S.nf [true, true, true] rfl (subR rfl)⟩
          ·replace h := iteF h hb5
           refine Fs (Fg (lv S (rn_eql (S.tm rfl) rfl) rfl ?_));clear S;intro a S
           refine lv S (Ra (S.tm rfl)) rfl ?_;clear S;intro a S
           refine Ld ?_
           replace S := S.nk [.blk b2 (GStep.enc (GStep.mk x5 x6 r2.1.Id x7 x8 x9 x10 x11)) 39, .own v1 39 8 x1.length (x1.flatMap GStep.enc), .blk O [U, iV r6.2] 25] [(0, .pointer (some ⟨O, 0, none⟩)), (5, v1), (6, iV (W (x3 + r1.1))), (7, .pointer (some ⟨b2, 0, none⟩)), (8, iV Ao), (9, iV x4), (60, bV (decide (r6.1 = 2)))] [true, true, true] rfl (subR rfl)
           refine Tn ?_
           obtain ⟨j8, hj8, h⟩ := joinE h
           refine f_join (fun a w' => ∃ x50 : ByteArray, ∃ x51 : ByteArray, ∃ x52 : Int, ∃ x53 : Int, ∃ x54 : Int, j8 x50 x51 x52 x53 x54 = some r ∧ Sx w [O] nov [.blk b2 (GStep.enc (GStep.mk x5 x6 r2.1.Id x7 x50 x51 x52 x53)) 39, .own v1 39 8 x1.length (x1.flatMap GStep.enc), .blk O [U, iV x54] 25] [(0, .pointer (some ⟨O, 0, none⟩)), (5, v1), (6, iV (W (x3 + r1.1))), (7, .pointer (some ⟨b2, 0, none⟩)), (8, iV Ao), (9, iV x4)] 83 a w') ?_ ?_
           ·refine f_cond (S.tm rfl) (fun hb6 => ?_) (fun hb6 => ?_)
            ·replace h := iteT h hb6
             obtain ⟨j9, hj9, h⟩ := joinE h
             refine f_join (fun a w' => ∃ x55 : ByteArray, ∃ x56 : ByteArray, ∃ x57 : Int, j9 x55 x56 x57 = some r ∧ Sx w [O] nov [.blk b2 (GStep.enc (GStep.mk x5 x6 r2.1.Id x7 x55 x56 x10 x11)) 39, .own v1 39 8 x1.length (x1.flatMap GStep.enc), .blk O [U, iV x57] 25] [(0, .pointer (some ⟨O, 0, none⟩)), (5, v1), (6, iV (W (x3 + r1.1))), (7, .pointer (some ⟨b2, 0, none⟩)), (8, iV Ao), (9, iV x4)] 83 a w') ?_ ?_
             ·obtain ⟨r11, hr11, h⟩ := bindE h
              obtain ⟨r12, hr12, h⟩ := bindE h
              refine d_region [11, 13] ([O]) Tryz.mixed S rfl (by kernel_rfl) ?_;clear S;intro w60 hk50 hsel S
              refine d_pure 0 S hsel rfl rfl (by kernel_rfl) (by kernel_rfl) rfl (fun _ => (Rm (S.tm rfl))) ?_;clear S;intro a S
              refine d_pure 1 S hsel rfl rfl (by kernel_rfl) (by kernel_rfl) rfl (fun _ => (rn_fld fa_39_4 (S.tm rfl))) ?_;clear S;intro a S
              refine d_quiet 2 S hsel rfl (by kernel_rfl) (by kernel_rfl) (by kernel_rfl) (by kernel_rfl) rfl (fun _ hw => (rn_ld Tryz.isAgg9 (off := 0) (o := 4) (S.tm rfl) ((S.blk_mem (i := 0) (cells := (GStep.enc (GStep.mk x5 x6 r2.1.Id x7 x8 x9 x10 x11))) (b := b2) (T := 39) rfl (ne_fp (i := 2) (j := 0) (e := .blk O [U, iV r6.2] 25) (e' := .blk b2 (GStep.enc (GStep.mk x5 x6 r2.1.Id x7 x8 x9 x10 x11)) 39) S rfl rfl rfl)).kept hw) rfl)) ?_;clear S;intro a S
              refine d_pure 5 S hsel rfl rfl (by kernel_rfl) (by kernel_rfl) rfl (fun _ => (Rm (S.tm rfl))) ?_;clear S;intro a S
              refine d_pure 6 S hsel rfl rfl (by kernel_rfl) (by kernel_rfl) rfl (fun _ => (rn_fld fa_39_5 (S.tm rfl))) ?_;clear S;intro a S
              refine d_quiet 7 S hsel rfl (by kernel_rfl) (by kernel_rfl) (by kernel_rfl) (by kernel_rfl) rfl (fun _ hw => (rn_ld Tryz.isAgg9 (off := 0) (o := 5) (S.tm rfl) ((S.blk_mem (i := 0) (cells := (GStep.enc (GStep.mk x5 x6 r2.1.Id x7 x8 x9 x10 x11))) (b := b2) (T := 39) rfl (ne_fp (i := 2) (j := 0) (e := .blk O [U, iV r6.2] 25) (e' := .blk b2 (GStep.enc (GStep.mk x5 x6 r2.1.Id x7 x8 x9 x10 x11)) 39) S rfl rfl rfl)).kept hw) rfl)) ?_;clear S;intro a S
              refine d_loud2 3 8 (by kernel_rfl) rfl rfl ?_ ?_
              ·refine l_buildSlice S Tryz.underlying57 Tryz.sizeOf9 Tryz.zeroValue9 rfl rfl (pv := [(0, sV k_A), (1, sV x8)]) ⟨rfl, rfl, rfl, (S.tm rfl), trivial⟩ (cs := [sV k_A, sV x8]) (by kernel_rfl) rfl ?_;clear S;intro a w61 b14 hz14 hk51 S
               refine Ld (d_next (Keep.none hk51) (d_loud2 4 8 (by kernel_rfl) rfl rfl ?_ ?_))
               ·refine l_enter1 3 S (b := O) rfl rfl (fun _ => .blk O [U, iV r11.2] 25) (fun _ => run_call (vs := [.pointer (some ⟨O, 0, none⟩), .slice (some ⟨b14, 0, none⟩) 2 2]) ⟨(S.tm rfl), (S.tm rfl), trivial⟩ Tryz.call19) (Stream_Some_ok _ O U Ae (Ad.mono (S.le_arg (fp_sub (i := 3) (e := .blk O [U, iV r6.2] 25) rfl))) r6.2 (S.holds _ (List.mem_of_getElem? (i := 3) rfl)) (.slice (some ⟨b14, 0, none⟩) 2 2) [k_A, x8] (lit_slcT enc_str S (i := 0) rfl rfl rfl rfl ((ne_fp (i := 3) (j := 0) (e := .blk O [U, iV r6.2] 25) (e' := .blk b14 [sV k_A, sV x8] 9) S rfl rfl rfl) _ rfl)) _ hr11) rfl (fun _ _ _ h => ⟨h.1, fun _ hc => by cases hc;rfl⟩) ?_;clear S;intro v21 a w62 hv20 hk52 hn20 S
                replace hv20 := hv20.2
                subst hv20
                refine Ld (d_next hk52 (d_pure 10 S hsel rfl rfl (by kernel_rfl) (by kernel_rfl) rfl (fun _ => (rn_fld fa_39_4 (S.tm rfl))) ?_));clear S;intro a S
                refine d_loud1 8 (by kernel_rfl) rfl (l_buildSlice S Tryz.underlying57 Tryz.sizeOf9 Tryz.zeroValue9 rfl rfl (pv := [(0, sV k_empty), (1, sV x9)]) ⟨rfl, rfl, rfl, (S.tm rfl), trivial⟩ (cs := [sV k_empty, sV x9]) (by kernel_rfl) rfl ?_);clear S;intro a w63 b15 hz15 hk53 S
                refine Ld (d_next (Keep.none hk53) (d_loud1 9 (by kernel_rfl) rfl ?_))
                refine l_enter1 4 S (b := O) rfl rfl (fun _ => .blk O [U, iV r12.2] 25) (fun _ => run_call (vs := [.pointer (some ⟨O, 0, none⟩), .slice (some ⟨b15, 0, none⟩) 2 2]) ⟨(S.tm rfl), (S.tm rfl), trivial⟩ Tryz.call19) (Stream_Some_ok _ O U Ae (Ad.mono (S.le_arg (fp_sub (i := 4) (e := .blk O [U, iV r11.2] 25) rfl))) r11.2 (S.holds _ (List.mem_of_getElem? (i := 4) rfl)) (.slice (some ⟨b15, 0, none⟩) 2 2) [k_empty, x9] (lit_slcT enc_str S (i := 0) rfl rfl rfl rfl ((ne_fp (i := 4) (j := 0) (e := .blk O [U, iV r11.2] 25) (e' := .blk b15 [sV k_empty, sV x9] 9) S rfl rfl rfl) _ rfl)) _ hr12) rfl (fun _ _ _ h => ⟨h.1, fun _ hc => by cases hc;rfl⟩) ?_;clear S;intro v22 a w64 hv21 hk54 hn21 S
                replace hv21 := hv21.2
                subst hv21
                refine Ld (d_next hk54 (d_loudB 11 ([O] ++ [b2]) rfl (by kernel_rfl) rfl (l_store S (S.tm rfl) (S.tm rfl) (i := 2) (off := 4) rfl Tryz.sizeOf9 (vs := [sV r11.1]) rfl rfl rfl rfl ?_)));clear S;intro w65 hk55 S
                refine Ld (d_nextB (d_quiet 12 S hsel rfl rfl rfl (by kernel_rfl) (by kernel_rfl) rfl (fun _ hw => (rn_fld fa_39_5 (S.tm rfl))) ?_));clear S;intro a S
                refine d_loud1 13 (by kernel_rfl) rfl (l_store S (S.tm rfl) (S.tm rfl) (i := 2) (off := 5) rfl Tryz.sizeOf9 (vs := [sV r12.1]) rfl rfl rfl rfl ?_);clear S;intro w66 hk56 S
                refine Ld ?_
                refine d_next (hk56.sub (by intro y hy;simp at hy ⊢;simp [hy])) ?_
                refine d_end (by kernel_rfl) ?_
                clear hsel
                replace S := S.nk [.blk b2 (GStep.enc (GStep.mk x5 x6 r2.1.Id x7 r11.1 r12.1 x10 x11)) 39, .own v1 39 8 x1.length (x1.flatMap GStep.enc), .blk O [U, iV r12.2] 25] [(0, .pointer (some ⟨O, 0, none⟩)), (5, v1), (6, iV (W (x3 + r1.1))), (7, .pointer (some ⟨b2, 0, none⟩)), (8, iV Ao), (9, iV x4)] [false, false, true, true, true] rfl (subR rfl)
                refine Tn ?_
                exact ⟨r11.1, r12.1, r12.2, h, S.nf [true, true, true] rfl (subR rfl)⟩
               ·refine l_buildSlice S Tryz.underlying57 Tryz.sizeOf9 Tryz.zeroValue9 rfl rfl (pv := [(0, sV k_empty), (1, sV x9)]) ⟨rfl, rfl, rfl, (S.tm rfl), trivial⟩ (cs := [sV k_empty, sV x9]) (by kernel_rfl) rfl ?_;clear S;intro a w67 b16 hz16 hk57 S
                refine Ld (d_next (Keep.none hk57) (d_loud1 4 (by kernel_rfl) rfl ?_))
                refine l_enter1 4 S (b := O) rfl rfl (fun _ => .blk O [U, iV r11.2] 25) (fun _ => run_call (vs := [.pointer (some ⟨O, 0, none⟩), .slice (some ⟨b14, 0, none⟩) 2 2]) ⟨(S.tm rfl), (S.tm rfl), trivial⟩ Tryz.call19) (Stream_Some_ok _ O U Ae (Ad.mono (S.le_arg (fp_sub (i := 4) (e := .blk O [U, iV r6.2] 25) rfl))) r6.2 (S.holds _ (List.mem_of_getElem? (i := 4) rfl)) (.slice (some ⟨b14, 0, none⟩) 2 2) [k_A, x8] (lit_slcT enc_str S (i := 1) rfl rfl rfl rfl ((ne_fp (i := 4) (j := 1) (e := .blk O [U, iV r6.2] 25) (e' := .blk b14 [sV k_A, sV x8] 9) S rfl rfl rfl) _ rfl)) _ hr11) rfl (fun _ _ _ h => ⟨h.1, fun _ hc => by cases hc;rfl⟩) ?_;clear S;intro v23 a w68 hv22 hk58 hn22 S
                replace hv22 := hv22.2
                subst hv22
                refine Ld (d_next hk58 (d_pure 10 S hsel rfl rfl (by kernel_rfl) (by kernel_rfl) rfl (fun _ => (rn_fld fa_39_4 (S.tm rfl))) ?_));clear S;intro a S
                refine d_loud1 9 (by kernel_rfl) rfl ?_
                refine l_enter1 4 S (b := O) rfl rfl (fun _ => .blk O [U, iV r12.2] 25) (fun _ => run_call (vs := [.pointer (some ⟨O, 0, none⟩), .slice (some ⟨b16, 0, none⟩) 2 2]) ⟨(S.tm rfl), (S.tm rfl), trivial⟩ Tryz.call19) (Stream_Some_ok _ O U Ae (Ad.mono (S.le_arg (fp_sub (i := 4) (e := .blk O [U, iV r11.2] 25) rfl))) r11.2 (S.holds _ (List.mem_of_getElem? (i := 4) rfl)) (.slice (some ⟨b16, 0, none⟩) 2 2) [k_empty, x9] (lit_slcT enc_str S (i := 0) rfl rfl rfl rfl ((ne_fp (i := 4) (j := 0) (e := .blk O [U, iV r11.2] 25) (e' := .blk b16 [sV k_empty, sV x9] 9) S rfl rfl rfl) _ rfl)) _ hr12) rfl (fun _ _ _ h => ⟨h.1, fun _ hc => by cases hc;rfl⟩) ?_;clear S;intro v24 a w69 hv23 hk59 hn23 S
                replace hv23 := hv23.2
                subst hv23
                refine Ld (d_next hk59 (d_loudB 11 ([O] ++ [b2]) rfl (by kernel_rfl) rfl (l_store S (S.tm rfl) (S.tm rfl) (i := 2) (off := 4) rfl Tryz.sizeOf9 (vs := [sV r11.1]) rfl rfl rfl rfl ?_)));clear S;intro w70 hk60 S
                refine Ld (d_nextB (d_quiet 12 S hsel rfl rfl rfl (by kernel_rfl) (by kernel_rfl) rfl (fun _ hw => (rn_fld fa_39_5 (S.tm rfl))) ?_));clear S;intro a S
                refine d_loud1 13 (by kernel_rfl) rfl (l_store S (S.tm rfl) (S.tm rfl) (i := 2) (off := 5) rfl Tryz.sizeOf9 (vs := [sV r12.1]) rfl rfl rfl rfl ?_);clear S;intro w71 hk61 S
                refine Ld ?_
                refine d_next (hk61.sub (by intro y hy;simp at hy ⊢;simp [hy])) ?_
                refine d_end (by kernel_rfl) ?_
                clear hsel
                replace S := S.nk [.blk b2 (GStep.enc (GStep.mk x5 x6 r2.1.Id x7 r11.1 r12.1 x10 x11)) 39, .own v1 39 8 x1.length (x1.flatMap GStep.enc), .blk O [U, iV r12.2] 25] [(0, .pointer (some ⟨O, 0, none⟩)), (5, v1), (6, iV (W (x3 + r1.1))), (7, .pointer (some ⟨b2, 0, none⟩)), (8, iV Ao), (9, iV x4)] [false, false, true, true, true] rfl (subR rfl)
                refine Tn ?_
                exact ⟨r11.1, r12.1, r12.2, h, S.nf [true, true, true] rfl (subR rfl)⟩
              ·refine l_buildSlice S Tryz.underlying57 Tryz.sizeOf9 Tryz.zeroValue9 rfl rfl (pv := [(0, sV k_empty), (1, sV x9)]) ⟨rfl, rfl, rfl, (S.tm rfl), trivial⟩ (cs := [sV k_empty, sV x9]) (by kernel_rfl) rfl ?_;clear S;intro a w72 b17 hz17 hk62 S
               refine Ld (d_next (Keep.none hk62) (d_loud1 3 (by kernel_rfl) rfl (l_buildSlice S Tryz.underlying57 Tryz.sizeOf9 Tryz.zeroValue9 rfl rfl (pv := [(0, sV k_A), (1, sV x8)]) ⟨rfl, rfl, rfl, (S.tm rfl), trivial⟩ (cs := [sV k_A, sV x8]) (by kernel_rfl) rfl ?_)));clear S;intro a w73 b18 hz18 hk63 S
               refine Ld (d_next (Keep.none hk63) (d_loud1 4 (by kernel_rfl) rfl ?_))
               refine l_enter1 4 S (b := O) rfl rfl (fun _ => .blk O [U, iV r11.2] 25) (fun _ => run_call (vs := [.pointer (some ⟨O, 0, none⟩), .slice (some ⟨b18, 0, none⟩) 2 2]) ⟨(S.tm rfl), (S.tm rfl), trivial⟩ Tryz.call19) (Stream_Some_ok _ O U Ae (Ad.mono (S.le_arg (fp_sub (i := 4) (e := .blk O [U, iV r6.2] 25) rfl))) r6.2 (S.holds _ (List.mem_of_getElem? (i := 4) rfl)) (.slice (some ⟨b18, 0, none⟩) 2 2) [k_A, x8] (lit_slcT enc_str S (i := 0) rfl rfl rfl rfl ((ne_fp (i := 4) (j := 0) (e := .blk O [U, iV r6.2] 25) (e' := .blk b18 [sV k_A, sV x8] 9) S rfl rfl rfl) _ rfl)) _ hr11) rfl (fun _ _ _ h => ⟨h.1, fun _ hc => by cases hc;rfl⟩) ?_;clear S;intro v25 a w74 hv24 hk64 hn24 S
               replace hv24 := hv24.2
               subst hv24
               refine Ld (d_next hk64 (d_pure 10 S hsel rfl rfl (by kernel_rfl) (by kernel_rfl) rfl (fun _ => (rn_fld fa_39_4 (S.tm rfl))) ?_));clear S;intro a S
               refine d_loud1 9 (by kernel_rfl) rfl ?_
               refine l_enter1 4 S (b := O) rfl rfl (fun _ => .blk O [U, iV r12.2] 25) (fun _ => run_call (vs := [.pointer (some ⟨O, 0, none⟩), .slice (some ⟨b17, 0, none⟩) 2 2]) ⟨(S.tm rfl), (S.tm rfl), trivial⟩ Tryz.call19) (Stream_Some_ok _ O U Ae (Ad.mono (S.le_arg (fp_sub (i := 4) (e := .blk O [U, iV r11.2] 25) rfl))) r11.2 (S.holds _ (List.mem_of_getElem? (i := 4) rfl)) (.slice (some ⟨b17, 0, none⟩) 2 2) [k_empty, x9] (lit_slcT enc_str S (i := 1) rfl rfl rfl rfl ((ne_fp (i := 4) (j := 1) (e := .blk O [U, iV r11.2] 25) (e' := .blk b17 [sV k_empty, sV x9] 9) S rfl rfl rfl) _ rfl)) _ hr12) rfl (fun _ _ _ h => ⟨h.1, fun _ hc => by cases hc;rfl⟩) ?_;clear S;intro v26 a w75 hv25 hk65 hn25 S
               replace hv25 := hv25.2
               subst hv25
               refine Ld (d_next hk65 (d_loudB 11 ([O] ++ [b2]) rfl (by kernel_rfl) rfl (l_store S (S.tm rfl) (S.tm rfl) (i := 2) (off := 4) rfl Tryz.sizeOf9 (vs := [sV r11.1]) rfl rfl rfl rfl ?_)));clear S;intro w76 hk66 S
               refine Ld (d_nextB (d_quiet 12 S hsel rfl rfl rfl (by kernel_rfl) (by kernel_rfl) rfl (fun _ hw => (rn_fld fa_39_5 (S.tm rfl))) ?_));clear S;intro a S
               refine d_loud1 13 (by kernel_rfl) rfl (l_store S (S.tm rfl) (S.tm rfl) (i := 2) (off := 5) rfl Tryz.sizeOf9 (vs := [sV r12.1]) rfl rfl rfl rfl ?_);clear S;intro w77 hk67 S
               refine Ld ?_
               refine d_next (hk67.sub (by intro y hy;simp at hy ⊢;simp [hy])) ?_
               refine d_end (by kernel_rfl) ?_
               clear hsel
               replace S := S.nk [.blk b2 (GStep.enc (GStep.mk x5 x6 r2.1.Id x7 r11.1 r12.1 x10 x11)) 39, .own v1 39 8 x1.length (x1.flatMap GStep.enc), .blk O [U, iV r12.2] 25] [(0, .pointer (some ⟨O, 0, none⟩)), (5, v1), (6, iV (W (x3 + r1.1))), (7, .pointer (some ⟨b2, 0, none⟩)), (8, iV Ao), (9, iV x4)] [false, false, true, true, true] rfl (subR rfl)
               refine Tn ?_
               exact ⟨r11.1, r12.1, r12.2, h, S.nf [true, true, true] rfl (subR rfl)⟩
             clear S h;rintro a w53 ⟨x55, x56, x57, h, S⟩;rw [hj9] at h;clear hj9 j9
             refine Tn ?_
             exact ⟨x55, x56, x10, x11, x57, h, S.nf [true, true, true] rfl (subR rfl)⟩
            ·replace h := iteF h hb6
             refine Fg (lv S (Rm (S.tm rfl)) rfl ?_);clear S;intro a S
             obtain ⟨r13, hr13, h⟩ := bindE h
             refine l_enter1 2 S (b := O) rfl rfl (fun _ => .blk O [U, iV r13.2] 25) (fun _ => run_call (vs := [.pointer (some ⟨O, 0, none⟩), iV 0, iV 150]) ⟨(S.tm rfl), rfl, rfl, trivial⟩ Tryz.call18) (Stream_Odd_ok _ O U Ae (Ad.mono (S.le_arg (fp_sub (i := 2) (e := .blk O [U, iV r6.2] 25) rfl))) r6.2 (S.holds _ (List.mem_of_getElem? (i := 2) rfl)) 0 150 _ hr13) rfl (fun _ _ _ h => ⟨h.1, fun _ hc => by cases hc;rfl⟩) ?_;clear S;intro v27 a w78 hv26 hk68 hn26 S
             replace hv26 := hv26.2
             subst hv26
             refine lv S (Rm (S.tm rfl)) rfl ?_;clear S;intro a S
             obtain ⟨r14, hr14, h⟩ := bindE h
             refine l_enter1 2 S (b := O) rfl rfl (fun _ => .blk O [U, iV r14.2] 25) (fun _ => run_call (vs := [.pointer (some ⟨O, 0, none⟩), iV 1, iV 360000]) ⟨(S.tm rfl), rfl, rfl, trivial⟩ Tryz.call18) (Stream_Odd_ok _ O U Ae (Ad.mono (S.le_arg (fp_sub (i := 2) (e := .blk O [U, iV r13.2] 25) rfl))) r13.2 (S.holds _ (List.mem_of_getElem? (i := 2) rfl)) 1 360000 _ hr14) rfl (fun _ _ _ h => ⟨h.1, fun _ hc => by cases hc;rfl⟩) ?_;clear S;intro v28 a w79 hv27 hk69 hn27 S
             replace hv27 := hv27.2
             subst hv27
             refine lv S (rn_fld fa_39_6 (S.tm rfl)) rfl ?_;clear S;intro a S
             refine l_store S (S.tm rfl) (S.tm rfl) (i := 0) (off := 6) rfl Tryz.sizeOf3 (vs := [iV r13.1]) rfl rfl rfl rfl ?_;clear S;intro w80 hk70 S
             refine lv S (rn_fld fa_39_7 (S.tm rfl)) rfl ?_;clear S;intro a S
             refine l_store S (S.tm rfl) (S.tm rfl) (i := 0) (off := 7) rfl Tryz.sizeOf3 (vs := [iV r14.1]) rfl rfl rfl rfl ?_;clear S;intro w81 hk71 S
             refine Ld (Tn ?_)
             exact ⟨x8, x9, r13.1, r14.1, r14.2, h, S.nf [true, true, true] rfl (subR rfl)⟩
           clear S h;rintro a w52 ⟨x50, x51, x52, x53, x54, h, S⟩;rw [hj8] at h;clear hj8 j8
           refine Tn ?_
           exact ⟨r2.1.Id, x7, x50, x51, x52, x53, x54, h, S.nf [true, true, true] rfl (subR rfl)⟩
         clear S h;rintro a w26 ⟨x40, x41, x42, x43, x44, x45, x46, h, S⟩;rw [hj6] at h;clear hj6 j6
         refine Tn ?_
         exact ⟨x5, x6, x40, x41, x42, x43, x44, x45, x46, h, S.nf [true, true, true] rfl (subR rfl)⟩
       clear S h;rintro a w21 ⟨x31, x32, x33, x34, x35, x36, x37, x38, x39, h, S⟩;rw [hj5] at h;clear hj5 j5
       refine blk_n (Tn ?_)
       exact ⟨x31, x32, x33, x34, x35, x36, x37, x38, x39, h, S.nf [true, true, true] rfl (subR rfl)⟩
      clear S h;rintro a w20 ⟨x22, x23, x24, x25, x26, x27, x28, x29, x30, h, S⟩;rw [hj4] at h;clear hj4 j4
      refine Tn ?_
      exact ⟨x22, x23, x24, x25, x26, x27, x28, x29, x30, h, S.nf [true, true, true] rfl (subR rfl)⟩
     ·replace h := iteF h hb3
      refine wp_skip (Tn ?_)
      exact ⟨x5, x6, r2.1.Id, x7, x8, x9, x10, x11, r5.2, h, S.nf [true, true, true] rfl (subR rfl)⟩
    clear S h;rintro a w18 ⟨x13, x14, x15, x16, x17, x18, x19, x20, x21, h, S⟩;rw [hj3] at h;clear hj3 j3
    refine Tn (Fg (lv S (Rm (S.tm rfl)) rfl ?_));clear S;intro a S
    refine lv S (rn_ldA Tryz.isAgg39 Tryz.sizeOf39 (off := 0) (o := 0) (part := (GStep.enc (GStep.mk x13 x14 x15 x16 x17 x18 x19 x20))) rfl rfl (S.tm rfl) (S.cellsAt (i := 0) rfl)) rfl ?_;clear S;intro a S
    refine l_buildSlice S Tryz.underlying26 Tryz.sizeOf39 Tryz.zeroValue39 rfl rfl (pv := [(0, .agg (GStep.enc (GStep.mk x13 x14 x15 x16 x17 x18 x19 x20)).toArray)]) ⟨rfl, (S.tm rfl), trivial⟩ (cs := [iV x13, iV x14, sV x15, sV x16, sV x17, sV x18, iV x19, iV x20]) (by kernel_rfl) rfl ?_;clear S;intro a w82 b19 hz19 hk72 S
    obtain ⟨hc1, h⟩ := chkE h
    refine l_appendT sl_26 GStep.enc_ok S (S.tm rfl) (i := 2) rfl (S.tm rfl) (j := 0) rfl (ys := [(GStep.mk x13 x14 x15 x16 x17 x18 x19 x20)]) rfl rfl rfl rfl (by have := room_lt hc1;omega) rfl ?_;clear S;intro v29 a w83 hk73 S
    refine lv S (Ra (S.tm rfl)) rfl ?_;clear S;intro a S
    refine Ld (blk_n (Tn (Fg (lv S (rn_add (S.tm rfl) rfl) rfl ?_))));clear S;intro a S
    refine lv S (Rm (S.tm rfl)) rfl ?_;clear S;intro a S
    refine Ld (Tn ?_)
    exact ⟨m1, ⟨(x1 ++ [(GStep.mk x13 x14 x15 x16 x17 x18 x19 x20)]), x21, W (x3 + r1.1), W (x4 + 1), v29, h, S.nf [false, false, true, true] rfl ⟨rfl, rfl, rfl, rfl, rfl, trivial⟩⟩, Nat.lt_succ_self _⟩
   ·replace h := iteF h hb1
    refine wp_exit (then_x (then_x (x_same (Tn ?_))))
    exact ⟨x1, x2, v1, h, S.nf [true, true] rfl ⟨rfl, trivial⟩⟩
 clear S h;rintro a w2 ⟨x1, x2, v1, h, S⟩;rw [hj1] at h;clear hj1 j1
 refine Tn (Fs (Fg (lv S (Rm (S.tm rfl)) rfl ?_)));clear S;intro a S
 obtain ⟨r15, hr15, h⟩ := bindE h
 refine l_enterO 0 S rfl (fun _ => .own v1 39 8 r15.length (r15.flatMap GStep.enc)) (fun _ => run_call (vs := [v1, .func (.func 21) #[] #[]]) ⟨(S.tm rfl), rfl, trivial⟩ Tryz.call20) (slices_SortStableFunc_Step_tumbref2_StepOrder_ok _ v1 x1 (S.holds _ (List.mem_of_getElem? (i := 0) rfl)) _ hr15) rfl (fun _ _ _ h => ⟨h.1, fun _ hc => hc⟩) ?_;clear S;intro v30 a w84 hv28 hk74 hn28 S
 replace hv28 := hv28.2
 subst hv28
 refine Ld (Tn (Fs (Fg (lv S (Rm (S.tm rfl)) rfl ?_))));clear S;intro a S
 obtain ⟨r16, hr16, h⟩ := bindE h
 have hz20 := S.keep.size
 refine l_enterO 0 S rfl (fun v31 => .own v31 39 8 r16.length (r16.flatMap GStep.enc)) (fun _ => run_call (vs := [v1, .func (.func 23) #[] #[]]) ⟨(S.tm rfl), rfl, trivial⟩ Tryz.call22) (slices_CompactFunc_Step_Stream_Steps_c1_ok _ v1 r15 (S.holds _ (List.mem_of_getElem? (i := 0) rfl)) _ hr16) rfl (fun _ _ _ h => ⟨h.1, fun _ hc => h.2.symm.trans hc⟩) ?_;clear S;intro v31 a w85 hv29 hk75 hn29 S
 clear hv29
 refine lv S (Ra (S.tm rfl)) rfl ?_;clear S;intro a S
 refine Ld (Tn (wp_ret ?_))
 obtain rfl := Option.some.inj h
 exact f_ret S Tryz.results4 rfl ⟨(S.holds _ (List.mem_of_getElem? (i := 1) rfl)), (own_retX S (i := 0) rfl (fun c hc hh => not_fps S (i := 1) rfl rfl (j := 0) rfl rfl (by simp at hc;subst hc;exact hh)))⟩
theorem tumbref2_in_ok (w : World) (Aj : Int) (Ay : Int) (Au : Int) (r : Bool) (h : tumbref2_in Aj Ay Au = r) :
    Calls Tryz.prog 60 [iV Aj, iV Ay, iV Au].toArray w (Ret w [] fun _ v _ => v = bV r) := by
 refine f_enter [] [] Tryz.func60 rfl Tryz.ntmps60 rfl (by simp) (by simp [fps]) (by simp [fps]) fun a S => ?_
 unfold tumbref2_in at h
 replace S := S.nk [] [(0, iV Aj), (1, iV Ay), (2, iV Au)] [] rfl (subR rfl)
 refine Fs (Fg (lv S (Ra rfl) rfl ?_));clear S;intro a S
 refine Ld (Tn (Fs (Fg (lv S (Rm (S.tm rfl)) rfl ?_))));clear S;intro a S
 refine lv S (Rm (S.tm rfl)) rfl ?_;clear S;intro a S
 refine lv S (rn_leq (S.tm rfl) (S.tm rfl)) rfl ?_;clear S;intro a S
 refine lv S (Rm (S.tm rfl)) rfl ?_;clear S;intro a S
 refine f_cutm 4 (fun a w' => Keep [] w w' ∧ Sx w [] nov [] [(14, bV ((decide (Ay ≤ Aj)) && (decide (Aj ≤ Au))))] 15 a w') ?_ ?_
 ·rcases Bool.eq_false_or_eq_true (decide (Ay ≤ Aj)) with hb1 | hb1
  ·refine l_want S rfl rfl rfl hb1 (lv S (Rm (S.tm rfl)) rfl ?_);clear S;intro a S
   refine l_want S rfl rfl rfl hb1 (lv S (Rm (S.tm rfl)) rfl ?_);clear S;intro a S
   refine l_want S rfl rfl rfl hb1 (lv S (rn_leq (S.tm rfl) (S.tm rfl)) rfl ?_);clear S;intro a S
   refine lv S (rn_and_t hb1 (S.tm rfl) (S.tm rfl)) rfl ?_;clear S;intro a S
   refine Ld (Tn ?_)
   exact ⟨Keep.refl _ _, S.nf [] rfl ⟨rfl, trivial⟩⟩
  ·iterate 3 (refine l_skip S rfl rfl rfl (neq_f hb1) rfl ?_ rfl;clear S;intro a S)
   refine lv S (rn_and_f (decide (Aj ≤ Au)) hb1 (S.tm rfl) rfl) rfl ?_;clear S;intro a S
   refine Ld (Tn ?_)
   exact ⟨Keep.refl _ _, S.nf [] rfl ⟨rfl, trivial⟩⟩
 clear S;rintro a w1 ⟨hk1, S⟩
 refine lv S (Ra (S.tm rfl)) rfl ?_;clear S;intro a S
 refine Ld (Tn (wp_ret ?_))
 subst h
 exact f_ret S Tryz.results60 rfl rfl
theorem tumbref2_Moment_ok (w : World) (Bl : Int) (r : Bool) (h : tumbref2_Moment Bl = r) :
    Calls Tryz.prog 59 [iV Bl].toArray w (Ret w [] fun _ v _ => v = bV r) := by
 refine f_enter [] [] Tryz.func59 rfl Tryz.ntmps59 rfl (by simp) (by simp [fps]) (by simp [fps]) fun a S => ?_
 unfold tumbref2_Moment at h
 replace S := S.nk [] [(0, iV Bl)] [] rfl ⟨rfl, trivial⟩
 refine Fs (Fg (lv S (Ra rfl) rfl ?_));clear S;intro a S
 refine Ld (Tn (Fs (Fg (lv S (Rm (S.tm rfl)) rfl ?_))));clear S;intro a S
 refine l_enter S (fun _ => run_call (vs := [iV Bl, iV 0, iV 345686399999]) ⟨(S.tm rfl), rfl, rfl, trivial⟩ Tryz.call60) (tumbref2_in_ok _ Bl 0 345686399999 _ rfl) rfl ?_;clear S;intro v1 a w1 hv1 hk1 hn1 S
 subst hv1
 refine lv S (Ra (S.tm rfl)) rfl ?_;clear S;intro a S
 refine Ld (Tn (wp_ret ?_))
 subst h
 exact f_ret S Tryz.results59 rfl rfl
theorem strings_IndexByte_ok (w : World) (s : ByteArray) (c : Int) (r : Int) (h : strings_IndexByte s c = r) : Calls Tryz.prog 92 [.string s, .int .u8 c].toArray w (Ret w [] fun _ v _ => v = .int .i64 r) := by
  subst h
  exact ret_of_same (Any.strings_IndexByte Tryz.lays137 s c w)
theorem tumbref2_only_ok (w : World) (Z : ByteArray) (Bn : ByteArray) (r : Bool) (h : tumbref2_only Z Bn = some r) :
    Calls Tryz.prog 70 [sV Z, sV Bn].toArray w (Ret w [] fun _ v _ => v = bV r) := by
 refine f_enter [] [] Tryz.func70 rfl Tryz.ntmps70 rfl (by simp) (by simp [fps]) (by simp [fps]) fun a S => ?_
 unfold tumbref2_only at h
 replace S := S.nk [] [(0, sV Z), (1, sV Bn)] [] rfl (subR rfl)
 refine Fs (Fg (lv S (Ra rfl) rfl ?_));clear S;intro a S
 refine Ld (Tn (Fs (Fs (Fg (lv S (Rm (S.tm rfl)) rfl ?_)))));clear S;intro a S
 refine lv S (rn_len_str Tryz.underlying9 (S.tm rfl)) rfl ?_;clear S;intro a S
 refine lv S (Rm rfl) rfl ?_;clear S;intro a S
 refine Ld (Tn ?_)
 replace S := S.nk [] [(0, sV Z), (1, sV Bn), (7, iV (Z.size : Int)), (8, iV 0)] [] rfl (subR rfl)
 obtain ⟨j1, hj1, h⟩ := joinE h
 refine f_join (fun a w' => j1 = some r ∧ Sx w [] nov [] [] 18 a w') ?_ ?_
 ·refine wp_block (f_loop (fun (m1 : Nat) a w' => ∃ x1 : Int, tumbref2_only_l1 Z Bn j1 m1 x1 = some r ∧ Sx w [] nov [] [(0, sV Z), (1, sV Bn), (7, iV (Z.size : Int)), (8, iV x1)] 18 a w') id (((Z.size : Int) - 0).toNat + 2) ⟨0, h, S.nf [] rfl (subR rfl)⟩ ?_)
  clear S h;rintro m1 a w1 ⟨x1, h, S⟩
  cases m1 with
  | zero => rw [tumbref2_only_l1.eq_1] at h;cases h
  | succ m1 =>
   rw [tumbref2_only_l1.eq_2] at h
   refine Fs (Fg (lv S (rn_lss (S.tm rfl) (S.tm rfl)) rfl ?_));clear S;intro a S
   refine Ld (Tn (Fs (f_cond (S.tm rfl) (fun hb1 => ?_) (fun hb1 => ?_))))
   ·replace h := iteT h hb1
    refine wp_skip (Tn (Fs (wp_block (Fs (Fg (lv S (Rm (S.tm rfl)) rfl ?_))))));clear S;intro a S
    refine lv S (Ra (S.tm rfl)) rfl ?_;clear S;intro a S
    refine Ld (Tn (Fs (Fg (lv S (Rm (S.tm rfl)) rfl ?_))));clear S;intro a S
    refine lv S (Rm (S.tm rfl)) rfl ?_;clear S;intro a S
    refine lv S (Rm (S.tm rfl)) rfl ?_;clear S;intro a S
    obtain ⟨hc1, h⟩ := chkE h
    refine lv S (rn_sindexT Tryz.underlying9 (S.tm rfl) (S.tm rfl) hc1) rfl ?_;clear S;intro a S
    refine l_enter S (fun _ => run_call (vs := [sV Bn, .int .u8 (sbyte Z x1)]) ⟨(S.tm rfl), (S.tm rfl), trivial⟩ Tryz.call92) (strings_IndexByte_ok _ Bn (sbyte Z x1) _ rfl) rfl ?_;clear S;intro v1 a w3 hv1 hk1 hn1 S
    subst hv1
    refine lv S (rn_lss (S.tm rfl) rfl) rfl ?_;clear S;intro a S
    refine Ld (Tn (f_cond (S.tm rfl) (fun hb2 => ?_) (fun hb2 => ?_)))
    ·replace h := iteT h hb2
     refine Fs (Fg (lv S (Ra rfl) rfl ?_));clear S;intro a S
     refine Ld (Tn (wp_ret (blk_r (then_r (then_r (blk_r ?_))))))
     refine then_r (then_r ?_)
     obtain rfl := Option.some.inj h
     exact f_ret S Tryz.results70 rfl rfl
    ·replace h := iteF h hb2
     refine wp_skip (blk_n (Tn (Fg (lv S (rn_add (S.tm rfl) rfl) rfl ?_))));clear S;intro a S
     refine lv S (Rm (S.tm rfl)) rfl ?_;clear S;intro a S
     refine Ld (Tn ?_)
     exact ⟨m1, ⟨W (x1 + 1), h, S.nf [] rfl ⟨rfl, rfl, rfl, rfl, trivial⟩⟩, Nat.lt_succ_self _⟩
   ·replace h := iteF h hb1
    refine wp_exit (then_x (then_x (x_same (Tn ?_))))
    exact ⟨h, S.nf [] rfl trivial⟩
 clear S h;rintro a w2 ⟨h, S⟩;rw [hj1] at h;clear hj1 j1
 refine Tn (Fs (Fg (lv S (Ra rfl) rfl ?_)));clear S;intro a S
 refine Ld (Tn (wp_ret ?_))
 obtain rfl := Option.some.inj h
 exact f_ret S Tryz.results70 rfl rfl
theorem tumbref2_Key_ok (w : World) (Z : ByteArray) (r : Bool) (h : tumbref2_Key Z = some r) :
    Calls Tryz.prog 61 [sV Z].toArray w (Ret w [] fun _ v _ => v = bV r) := by
 refine f_enter [] [] Tryz.func61 rfl Tryz.ntmps61 rfl (by simp) (by simp [fps]) (by simp [fps]) fun a S => ?_
 unfold tumbref2_Key at h
 replace S := S.nk [] [(0, sV Z)] [] rfl ⟨rfl, trivial⟩
 refine Fs (Fg (lv S (Ra rfl) rfl ?_));clear S;intro a S
 refine Ld (Tn (Fs (Fg (lv S (Rm (S.tm rfl)) rfl ?_))));clear S;intro a S
 refine lv S (rn_len_str Tryz.underlying9 (S.tm rfl)) rfl ?_;clear S;intro a S
 refine l_enter S (fun _ => run_call (vs := [iV (Z.size : Int), iV 1, iV 40]) ⟨(S.tm rfl), rfl, rfl, trivial⟩ Tryz.call60) (tumbref2_in_ok _ (Z.size : Int) 1 40 _ rfl) rfl ?_;clear S;intro v1 a w1 hv1 hk1 hn1 S
 subst hv1
 refine lv S (Rm (S.tm rfl)) rfl ?_;clear S;intro a S
 obtain ⟨j1, hj1, h⟩ := joinE h
 refine f_cutm 4 (fun a w' => ∃ c1, j1 c1 = some r ∧ Keep [] w1 w' ∧ Sx w [] nov [] [(0, sV Z), (10, bV c1)] 15 a w') ?_ ?_
 ·rcases Bool.eq_false_or_eq_true (tumbref2_in (Z.size : Int) 1 40) with hb1 | hb1
  ·replace h := iteT h hb1
   refine l_want S rfl rfl rfl hb1 (lv S (Rm (S.tm rfl)) rfl ?_);clear S;intro a S
   refine l_want S rfl rfl rfl hb1 ?_
   obtain ⟨hc1, h⟩ := chkE h
   refine lv S (rn_scutTh Tryz.underlying9 (S.tm rfl) rfl hc1) rfl ?_;clear S;intro a S
   refine l_want S rfl rfl rfl hb1 ?_
   obtain ⟨r1, hr1, h⟩ := bindE h
   refine l_enter S (fun _ => run_call (vs := [sV (scut Z 0 1), sV k_abcdefghijklmnopqrstuvwxyz]) ⟨(S.tm rfl), rfl, trivial⟩ Tryz.call70) (tumbref2_only_ok _ (scut Z 0 1) k_abcdefghijklmnopqrstuvwxyz _ hr1) rfl ?_;clear S;intro v2 a w3 hv2 hk2 hn2 S
   subst hv2
   refine lv S (rn_and_t hb1 (S.tm rfl) (S.tm rfl)) rfl ?_;clear S;intro a S
   refine Ld (Tn ?_)
   exact ⟨_, h, hk2, S.nf [] rfl (subR rfl)⟩
  ·replace h := iteF h hb1
   iterate 3 (refine l_skip S rfl rfl rfl (neq_f hb1) rfl ?_ rfl;clear S;intro a S)
   refine lv S (rn_and_f true hb1 (S.tm rfl) rfl) rfl ?_;clear S;intro a S
   refine Ld (Tn ?_)
   exact ⟨_, h, Keep.refl _ _, S.nf [] rfl (subR rfl)⟩
 clear S h;rintro a w2 ⟨c1, h, hk3, S⟩;rw [hj1] at h;clear hj1 j1
 refine lv S (Rm (S.tm rfl)) rfl ?_;clear S;intro a S
 obtain ⟨j2, hj2, h⟩ := joinE h
 refine f_cutm 3 (fun a w' => ∃ c2, j2 c2 = some r ∧ Keep [] w2 w' ∧ Sx w [] nov [] [(14, bV c2)] 15 a w') ?_ ?_
 ·rcases Bool.eq_false_or_eq_true c1 with hb2 | hb2
  ·replace h := iteT h hb2
   refine l_want S rfl rfl rfl hb2 (lv S (Rm (S.tm rfl)) rfl ?_);clear S;intro a S
   refine l_want S rfl rfl rfl hb2 ?_
   obtain ⟨r2, hr2, h⟩ := bindE h
   refine l_enter S (fun _ => run_call (vs := [sV Z, sV k_abcdefghijkl_h0e2e2c]) ⟨(S.tm rfl), rfl, trivial⟩ Tryz.call70) (tumbref2_only_ok _ Z k_abcdefghijkl_h0e2e2c _ hr2) rfl ?_;clear S;intro v3 a w5 hv3 hk4 hn3 S
   subst hv3
   refine lv S (rn_and_t hb2 (S.tm rfl) (S.tm rfl)) rfl ?_;clear S;intro a S
   refine Ld (Tn ?_)
   exact ⟨_, h, hk4, S.nf [] rfl ⟨rfl, trivial⟩⟩
  ·replace h := iteF h hb2
   refine l_skip S rfl rfl rfl (neq_f hb2) rfl ?_ rfl;clear S;intro a S
   refine l_skip S rfl rfl rfl (neq_f hb2) rfl ?_ rfl;clear S;intro a S
   refine lv S (rn_and_f true hb2 (S.tm rfl) rfl) rfl ?_;clear S;intro a S
   refine Ld (Tn ?_)
   exact ⟨_, h, Keep.refl _ _, S.nf [] rfl ⟨rfl, trivial⟩⟩
 clear S h;rintro a w4 ⟨c2, h, hk5, S⟩;rw [hj2] at h;clear hj2 j2
 refine lv S (Ra (S.tm rfl)) rfl ?_;clear S;intro a S
 refine Ld (Tn (wp_ret ?_))
 obtain rfl := Option.some.inj h
 exact f_ret S Tryz.results61 rfl rfl
theorem tumbref2_StepFault_ok (w : World) (Z : GStep) (r : Int) (h : tumbref2_StepFault Z = some r) :
    Calls Tryz.prog 34 [.agg (GStep.enc Z).toArray].toArray w (Ret w [] fun _ v _ => v = iV r) := by
 refine f_enter [] [] Tryz.func34 rfl Tryz.ntmps34 rfl (by simp) (by simp [fps]) (by simp [fps]) fun a S => ?_
 unfold tumbref2_StepFault at h
 replace S := S.nk [] [(0, .agg (GStep.enc Z).toArray)] [] rfl ⟨rfl, trivial⟩
 refine Fs (Fg (l_box S (S.tm rfl) (cs := (GStep.enc Z)) rfl rfl ?_));clear S;intro a w1 b1 hz1 hk1 S
 refine lv S (Ra rfl) rfl ?_;clear S;intro a S
 refine Ld (Tn (Fs (wp_block (Fs (Fg (lv S (rn_fld fa_39_0 (S.tm rfl)) rfl ?_))))));clear S;intro a S
 refine lv S (rn_load Tryz.isAgg3 (S.tm rfl) (S.cell (i := 0) rfl rfl)) rfl ?_;clear S;intro a S
 refine l_enter S (fun _ => run_call (vs := [iV Z.At]) ⟨(S.tm rfl), trivial⟩ Tryz.call59) (tumbref2_Moment_ok _ Z.At _ rfl) rfl ?_;clear S;intro v1 a w2 hv1 hk2 hn1 S
 subst hv1
 refine lv S (rn_not (S.tm rfl)) rfl ?_;clear S;intro a S
 refine lv S (Ra (S.tm rfl)) rfl ?_;clear S;intro a S
 refine Ld (Tn (f_cond (S.tm rfl) (fun hb1 => ?_) (fun hb1 => ?_)))
 ·replace h := iteT h hb1
  refine Fs (Fg (lv S (Ra rfl) rfl ?_));clear S;intro a S
  refine Ld (Tn (wp_ret (blk_r (then_r ?_))))
  obtain rfl := Option.some.inj h
  exact f_ret S Tryz.results34 rfl rfl
 ·replace h := iteF h hb1
  refine Fs (Fg (lv S (rn_fld fa_39_1 (S.tm rfl)) rfl ?_));clear S;intro a S
  refine lv S (rn_load Tryz.isAgg3 (S.tm rfl) (S.cell (i := 0) rfl rfl)) rfl ?_;clear S;intro a S
  refine l_enter S (fun _ => run_call (vs := [iV Z.Kind, iV 1, iV 3]) ⟨(S.tm rfl), rfl, rfl, trivial⟩ Tryz.call60) (tumbref2_in_ok _ Z.Kind 1 3 _ rfl) rfl ?_;clear S;intro v2 a w3 hv2 hk3 hn2 S
  subst hv2
  refine lv S (rn_not (S.tm rfl)) rfl ?_;clear S;intro a S
  refine lv S (Ra (S.tm rfl)) rfl ?_;clear S;intro a S
  refine Ld (Tn (f_cond (S.tm rfl) (fun hb2 => ?_) (fun hb2 => ?_)))
  ·replace h := iteT h hb2
   refine Fs (Fg (lv S (Ra rfl) rfl ?_));clear S;intro a S
   refine Ld (Tn (wp_ret (blk_r (then_r ?_))))
   obtain rfl := Option.some.inj h
   exact f_ret S Tryz.results34 rfl rfl
  ·replace h := iteF h hb2
   refine Fs (Fg (lv S (rn_fld fa_39_2 (S.tm rfl)) rfl ?_));clear S;intro a S
   refine lv S (rn_load Tryz.isAgg9 (S.tm rfl) (S.cell (i := 0) rfl rfl)) rfl ?_;clear S;intro a S
   obtain ⟨r1, hr1, h⟩ := bindE h
   refine l_enter S (fun _ => run_call (vs := [sV Z.Id]) ⟨(S.tm rfl), trivial⟩ Tryz.call61) (tumbref2_Key_ok _ Z.Id _ hr1) rfl ?_;clear S;intro v3 a w4 hv3 hk4 hn3 S
   subst hv3
   refine lv S (rn_not (S.tm rfl)) rfl ?_;clear S;intro a S
   refine lv S (Ra (S.tm rfl)) rfl ?_;clear S;intro a S
   refine Ld ?_
   replace S := S.nk [.blk b1 (GStep.enc Z) 39] [(1, .pointer (some ⟨b1, 0, none⟩)), (13, bV (!r1))] [true] rfl (subR rfl)
   refine Tn (f_cond (S.tm rfl) (fun hb3 => ?_) (fun hb3 => ?_))
   ·replace h := iteT h hb3
    refine Fs (Fg (lv S (Ra rfl) rfl ?_));clear S;intro a S
    refine Ld (Tn (wp_ret (blk_r (then_r ?_))))
    obtain rfl := Option.some.inj h
    exact f_ret S Tryz.results34 rfl rfl
   ·replace h := iteF h hb3
    refine wp_skip (blk_n (Tn (Fs (Fs (Fg (lv S (rn_fld fa_39_1 (S.tm rfl)) rfl ?_))))));clear S;intro a S
    refine lv S (rn_load Tryz.isAgg3 (S.tm rfl) (S.cell (i := 0) rfl rfl)) rfl ?_;clear S;intro a S
    refine lv S (rn_neq (S.tm rfl) rfl) rfl ?_;clear S;intro a S
    refine Ld (Tn (f_cond (S.tm rfl) (fun hb4 => ?_) (fun hb4 => ?_)))
    ·replace h := iteT h hb4
     refine Fs (Fs (Fg (lv S (rn_ldA Tryz.isAgg39 Tryz.sizeOf39 (off := 0) (o := 0) (part := (GStep.enc Z)) rfl rfl (S.tm rfl) (S.cellsAt (i := 0) rfl)) rfl ?_)));clear S;intro a S
     refine lv S (rn_fld fa_39_0 (S.tm rfl)) rfl ?_;clear S;intro a S
     refine lv S (rn_load Tryz.isAgg3 (S.tm rfl) (S.cell (i := 0) rfl rfl)) rfl ?_;clear S;intro a S
     refine lv S (rn_fld fa_39_1 (S.tm rfl)) rfl ?_;clear S;intro a S
     refine lv S (rn_load Tryz.isAgg3 (S.tm rfl) (S.cell (i := 0) rfl rfl)) rfl ?_;clear S;intro a S
     refine lv S (rn_fld fa_39_2 (S.tm rfl)) rfl ?_;clear S;intro a S
     refine lv S (rn_load Tryz.isAgg9 (S.tm rfl) (S.cell (i := 0) rfl rfl)) rfl ?_;clear S;intro a S
     refine lv S (rn_bld bt_39 (pv := [(0, iV Z.At), (1, iV Z.Kind), (2, sV Z.Id)]) ⟨rfl, (S.tm rfl), rfl, (S.tm rfl), rfl, (S.tm rfl), trivial⟩ (cs := [iV Z.At, iV Z.Kind, sV Z.Id, sV k_empty, sV k_empty, sV k_empty, iV 0, iV 0]) (by kernel_rfl)) rfl ?_;clear S;intro a S
     refine lv S (rn_neq_39 (m := Z) (n := (GStep.mk Z.At Z.Kind Z.Id k_empty k_empty k_empty 0 0)) (S.tm rfl) (S.tm rfl)) rfl ?_;clear S;intro a S
     refine Ld (Tn (f_cond (S.tm rfl) (fun hb5 => ?_) (fun hb5 => ?_)))
     ·replace h := iteT h hb5
      refine Fs (Fg (lv S (Ra rfl) rfl ?_));clear S;intro a S
      refine Ld ?_
      replace S := S.nk [] [(2, iV 3)] [false] rfl ⟨rfl, trivial⟩
      refine Tn (wp_ret (then_r (then_r ?_)))
      obtain rfl := Option.some.inj h
      exact f_ret S Tryz.results34 rfl rfl
     ·replace h := iteF h hb5
      refine wp_skip (Tn (Fs (Fg (lv S (Ra rfl) rfl ?_))));clear S;intro a S
      refine Ld ?_
      replace S := S.nk [] [(2, iV 0)] [false] rfl ⟨rfl, trivial⟩
      refine Tn (wp_ret (then_r ?_))
      obtain rfl := Option.some.inj h
      exact f_ret S Tryz.results34 rfl rfl
    ·replace h := iteF h hb4
     refine wp_skip (Tn (Fs (wp_block (Fs (Fg (lv S (rn_fld fa_39_3 (S.tm rfl)) rfl ?_))))));clear S;intro a S
     refine lv S (rn_load Tryz.isAgg9 (S.tm rfl) (S.cell (i := 0) rfl rfl)) rfl ?_;clear S;intro a S
     obtain ⟨r2, hr2, h⟩ := bindE h
     refine l_enter S (fun _ => run_call (vs := [sV Z.Who]) ⟨(S.tm rfl), trivial⟩ Tryz.call61) (tumbref2_Key_ok _ Z.Who _ hr2) rfl ?_;clear S;intro v4 a w5 hv4 hk5 hn4 S
     subst hv4
     refine lv S (rn_not (S.tm rfl)) rfl ?_;clear S;intro a S
     refine lv S (Rm (S.tm rfl)) rfl ?_;clear S;intro a S
     obtain ⟨j1, hj1, h⟩ := joinE h
     refine f_cutm 5 (fun a w' => ∃ c1, j1 c1 = some r ∧ Keep [] w5 w' ∧ Sx w [] nov [.blk b1 (GStep.enc Z) 39] [(1, .pointer (some ⟨b1, 0, none⟩)), (40, bV c1)] 63 a w') ?_ ?_
     ·rcases Bool.eq_false_or_eq_true (!r2) with hb6 | hb6
      ·replace h := iteT h hb6
       iterate 4 (refine l_skip S rfl rfl rfl (neq_t hb6) rfl ?_ rfl;clear S;intro a S)
       refine lv S (rn_or_t true hb6 (S.tm rfl) rfl) rfl ?_;clear S;intro a S
       refine Ld (Tn ?_)
       exact ⟨_, h, Keep.refl _ _, S.nf [true] rfl (subR rfl)⟩
      ·replace h := iteF h hb6
       refine l_want S rfl rfl rfl hb6 (lv S (rn_fld fa_39_5 (S.tm rfl)) rfl ?_);clear S;intro a S
       refine l_want S rfl rfl rfl hb6 (lv S (rn_load Tryz.isAgg9 (S.tm rfl) (S.cell (i := 0) rfl rfl)) rfl ?_);clear S;intro a S
       refine l_want S rfl rfl rfl hb6 ?_
       obtain ⟨r3, hr3, h⟩ := bindE h
       refine l_enter S (fun _ => run_call (vs := [sV Z.Race]) ⟨(S.tm rfl), trivial⟩ Tryz.call61) (tumbref2_Key_ok _ Z.Race _ hr3) rfl ?_;clear S;intro v5 a w7 hv5 hk6 hn5 S
       subst hv5
       refine l_want S rfl rfl rfl hb6 (lv S (rn_not (S.tm rfl)) rfl ?_);clear S;intro a S
       refine lv S (rn_or_f hb6 (S.tm rfl) (S.tm rfl)) rfl ?_;clear S;intro a S
       refine Ld (Tn ?_)
       exact ⟨_, h, hk6, S.nf [true] rfl (subR rfl)⟩
     clear S h;rintro a w6 ⟨c1, h, hk7, S⟩;rw [hj1] at h;clear hj1 j1
     refine lv S (Rm (S.tm rfl)) rfl ?_;clear S;intro a S
     obtain ⟨j2, hj2, h⟩ := joinE h
     refine f_cutm 10 (fun a w' => ∃ c2, j2 c2 = some r ∧ Keep [] w6 w' ∧ Sx w [] nov [.blk b1 (GStep.enc Z) 39] [(1, .pointer (some ⟨b1, 0, none⟩)), (51, bV c2)] 63 a w') ?_ ?_
     ·rcases Bool.eq_false_or_eq_true c1 with hb7 | hb7
      ·replace h := iteT h hb7
       iterate 4 (refine l_skip S rfl rfl rfl (neq_t hb7) rfl ?_ rfl;clear S;intro a S)
       iterate 4 (refine l_skipU S rfl rfl rfl rfl ?_;clear S;intro a S)
       refine l_skip S rfl rfl rfl (neq_t hb7) rfl ?_ rfl;clear S;intro a S
       refine lv S (rn_or_t true hb7 (S.tm rfl) rfl) rfl ?_;clear S;intro a S
       refine Ld (Tn ?_)
       exact ⟨_, h, Keep.refl _ _, S.nf [true] rfl (subR rfl)⟩
      ·replace h := iteF h hb7
       refine l_want S rfl rfl rfl hb7 (lv S (rn_fld fa_39_4 (S.tm rfl)) rfl ?_);clear S;intro a S
       refine l_want S rfl rfl rfl hb7 (lv S (rn_load Tryz.isAgg9 (S.tm rfl) (S.cell (i := 0) rfl rfl)) rfl ?_);clear S;intro a S
       refine l_want S rfl rfl rfl hb7 (lv S (rn_sneq (S.tm rfl) rfl) rfl ?_);clear S;intro a S
       refine l_want S rfl rfl rfl hb7 (lv S (Rm (S.tm rfl)) rfl ?_);clear S;intro a S
       obtain ⟨j3, hj3, h⟩ := joinE h
       refine f_cutm 5 (fun a w' => ∃ c3, j3 c3 = some r ∧ Keep [] w6 w' ∧ Sx w [] nov [.blk b1 (GStep.enc Z) 39] [(1, .pointer (some ⟨b1, 0, none⟩)), (41, bV c1), (50, bV c3)] 63 a w') ?_ ?_
       ·rcases Bool.eq_false_or_eq_true (!decide (Z.Club = k_empty)) with hb8 | hb8
        ·replace h := iteT h hb8
         refine l_want S rfl rfl rfl hb8 (lv S (rn_fld fa_39_4 (S.tm rfl)) rfl ?_);clear S;intro a S
         refine l_want S rfl rfl rfl hb8 (lv S (rn_load Tryz.isAgg9 (S.tm rfl) (S.cell (i := 0) rfl rfl)) rfl ?_);clear S;intro a S
         refine l_want S rfl rfl rfl hb8 ?_
         obtain ⟨r4, hr4, h⟩ := bindE h
         refine l_enter S (fun _ => run_call (vs := [sV Z.Club]) ⟨(S.tm rfl), trivial⟩ Tryz.call61) (tumbref2_Key_ok _ Z.Club _ hr4) rfl ?_;clear S;intro v6 a w10 hv6 hk8 hn6 S
         subst hv6
         refine l_want S rfl rfl rfl hb8 (lv S (rn_not (S.tm rfl)) rfl ?_);clear S;intro a S
         refine l_want S rfl rfl rfl hb7 (lv S (rn_and_t hb8 (S.tm rfl) (S.tm rfl)) rfl ?_);clear S;intro a S
         refine Ld (Tn ?_)
         exact ⟨_, h, hk8, S.nf [true] rfl (subR rfl)⟩
        ·replace h := iteF h hb8
         iterate 4 (refine l_skip S rfl rfl rfl (neq_f hb8) rfl ?_ rfl;clear S;intro a S)
         refine l_want S rfl rfl rfl hb7 (lv S (rn_and_f true hb8 (S.tm rfl) rfl) rfl ?_);clear S;intro a S
         refine Ld (Tn ?_)
         exact ⟨_, h, Keep.refl _ _, S.nf [true] rfl (subR rfl)⟩
       clear S h;rintro a w9 ⟨c3, h, hk9, S⟩;rw [hj3] at h;clear hj3 j3
       refine lv S (rn_or_f hb7 (S.tm rfl) (S.tm rfl)) rfl ?_;clear S;intro a S
       refine Ld (Tn ?_)
       exact ⟨_, h, hk9, S.nf [true] rfl (subR rfl)⟩
     clear S h;rintro a w8 ⟨c2, h, hk10, S⟩;rw [hj2] at h;clear hj2 j2
     refine lv S (Ra (S.tm rfl)) rfl ?_;clear S;intro a S
     refine Ld (Tn (f_cond (S.tm rfl) (fun hb9 => ?_) (fun hb9 => ?_)))
     ·replace h := iteT h hb9
      refine Fs (Fg (lv S (Ra rfl) rfl ?_));clear S;intro a S
      refine Ld (Tn (wp_ret (blk_r (then_r ?_))))
      obtain rfl := Option.some.inj h
      exact f_ret S Tryz.results34 rfl rfl
     ·replace h := iteF h hb9
      refine Fs (Fg (lv S (rn_fld fa_39_6 (S.tm rfl)) rfl ?_));clear S;intro a S
      refine lv S (rn_load Tryz.isAgg3 (S.tm rfl) (S.cell (i := 0) rfl rfl)) rfl ?_;clear S;intro a S
      refine l_enter S (fun _ => run_call (vs := [iV Z.Age, iV 0, iV 150]) ⟨(S.tm rfl), rfl, rfl, trivial⟩ Tryz.call60) (tumbref2_in_ok _ Z.Age 0 150 _ rfl) rfl ?_;clear S;intro v7 a w11 hv7 hk11 hn7 S
      subst hv7
      refine lv S (rn_not (S.tm rfl)) rfl ?_;clear S;intro a S
      refine lv S (Rm (S.tm rfl)) rfl ?_;clear S;intro a S
      refine f_cutm 5 (fun a w' => Keep [] w11 w' ∧ Sx w [] nov [.blk b1 (GStep.enc Z) 39] [(62, bV ((!(tumbref2_in Z.Age 0 150)) || (!(tumbref2_in Z.Time 1 360000))))] 63 a w') ?_ ?_
      ·rcases Bool.eq_false_or_eq_true (!(tumbref2_in Z.Age 0 150)) with hb10 | hb10
       ·iterate 4 (refine l_skip S rfl rfl rfl (neq_t hb10) rfl ?_ rfl;clear S;intro a S)
        refine lv S (rn_or_t (!(tumbref2_in Z.Time 1 360000)) hb10 (S.tm rfl) rfl) rfl ?_;clear S;intro a S
        refine Ld (Tn ?_)
        exact ⟨Keep.refl _ _, S.nf [true] rfl ⟨rfl, trivial⟩⟩
       ·refine l_want S rfl rfl rfl hb10 (lv S (rn_fld fa_39_7 (S.tm rfl)) rfl ?_);clear S;intro a S
        refine l_want S rfl rfl rfl hb10 (lv S (rn_load Tryz.isAgg3 (S.tm rfl) (S.cell (i := 0) rfl rfl)) rfl ?_);clear S;intro a S
        refine l_want S rfl rfl rfl hb10 (l_enter S (fun _ => run_call (vs := [iV Z.Time, iV 1, iV 360000]) ⟨(S.tm rfl), rfl, rfl, trivial⟩ Tryz.call60) (tumbref2_in_ok _ Z.Time 1 360000 _ rfl) rfl ?_);clear S;intro v8 a w13 hv8 hk12 hn8 S
        subst hv8
        refine l_want S rfl rfl rfl hb10 (lv S (rn_not (S.tm rfl)) rfl ?_);clear S;intro a S
        refine lv S (rn_or_f hb10 (S.tm rfl) (S.tm rfl)) rfl ?_;clear S;intro a S
        refine Ld (Tn ?_)
        exact ⟨hk12, S.nf [true] rfl ⟨rfl, trivial⟩⟩
      clear S;rintro a w12 ⟨hk13, S⟩
      refine lv S (Ra (S.tm rfl)) rfl ?_;clear S;intro a S
      refine Ld (Tn (f_cond (S.tm rfl) (fun hb11 => ?_) (fun hb11 => ?_)))
      ·replace h := iteT h hb11
       refine Fs (Fg (lv S (Ra rfl) rfl ?_));clear S;intro a S
       refine Ld (Tn (wp_ret (blk_r (then_r ?_))))
       obtain rfl := Option.some.inj h
       exact f_ret S Tryz.results34 rfl rfl
      ·replace h := iteF h hb11
       refine wp_skip (blk_n (Tn (Fs (Fg (lv S (Ra rfl) rfl ?_)))));clear S;intro a S
       refine Ld (Tn (wp_ret ?_))
       obtain rfl := Option.some.inj h
       exact f_ret S Tryz.results34 rfl rfl
set_option maxRecDepth 20000 in
theorem tumbref2_StepsFault_ok (w : World) (V : Value) (Ac : List GStep) (Ag : Slc (view w []) 8 V (Ac.map GStep.enc)) (r : Int) (h : tumbref2_StepsFault Ac = some r) :
    Calls Tryz.prog 8 [V].toArray w (Ret w [] fun _ v _ => v = iV r) := by
 refine f_enter [] [] Tryz.func8 rfl Tryz.ntmps8 rfl (by simp) (by simp [fps]) (by simp [fps]) fun a S => ?_
 unfold tumbref2_StepsFault at h
 replace S := S.nk [] [(0, V)] [] rfl ⟨rfl, trivial⟩
 refine Fs (Fg (lv S (Ra rfl) rfl ?_));clear S;intro a S
 refine Ld (Tn (Fs (Fs (Fg (lv S (Rm (S.tm rfl)) rfl ?_)))));clear S;intro a S
 refine lv S (rn_lenT sl_26 (S.tm rfl) (slc_len Ag)) rfl ?_;clear S;intro a S
 refine lv S (rn_gtr (S.tm rfl) rfl) rfl ?_;clear S;intro a S
 refine Ld (Tn (f_cond (S.tm rfl) (fun hb1 => ?_) (fun hb1 => ?_)))
 ·replace h := iteT h hb1
  refine Fs (Fg (lv S (Ra rfl) rfl ?_));clear S;intro a S
  refine Ld (Tn (wp_ret (then_r ?_)))
  obtain rfl := Option.some.inj h
  exact f_ret S Tryz.results8 rfl rfl
 ·replace h := iteF h hb1
  refine wp_skip (Tn (Fs (Fs (Fg (lv S (Rm (S.tm rfl)) rfl ?_)))));clear S;intro a S
  refine lv S (rn_lenT sl_26 (S.tm rfl) (slc_len Ag)) rfl ?_;clear S;intro a S
  refine lv S (Rm rfl) rfl ?_;clear S;intro a S
  refine Ld (Tn ?_)
  replace S := S.nk [] [(0, V), (9, V), (10, iV (Ac.length : Int)), (11, iV 0)] [] rfl (subR rfl)
  obtain ⟨j1, hj1, h⟩ := joinE h
  refine f_join (fun a w' => j1 = some r ∧ Sx w [] nov [] [] 34 a w') ?_ ?_
  ·refine wp_block (f_loop (fun (ys1 : List GStep) a w' => ∃ i1 : Nat, (∃ dn, Ac = dn ++ ys1 ∧ dn.length = i1) ∧ tumbref2_StepsFault_l1 Ac j1 ys1 i1 = some r ∧ Sx w [] nov [] [(0, V), (9, V), (10, iV (Ac.length : Int)), (11, iV (i1 : Int))] 34 a w') List.length Ac ⟨0, ⟨[], rfl, rfl⟩, h, S.nf [] rfl (subR rfl)⟩ ?_)
   clear S h;rintro ys1 a w1 ⟨i1, ⟨dn, hd1, hi1⟩, h, S⟩
   cases ys1 with
   | nil =>
    rw [tumbref2_StepsFault_l1.eq_1] at h
    refine Fs (Fg (lv S (rn_lss (S.tm rfl) (S.tm rfl)) rfl ?_));clear S;intro a S
    refine Ld ?_
    replace S := S.nk [] [(0, V), (9, V), (10, iV (Ac.length : Int)), (11, iV (i1 : Int)), (12, bV (decide ((i1 : Int) < (Ac.length : Int))))] [] rfl (subR rfl)
    refine Tn (Fs (wp_cond_false ((S.tm rfl).trans (congrArg Value.bool (rng_nil hd1 hi1))) (wp_exit (then_x (then_x (x_same ?_))))))
    refine Tn ?_
    exact ⟨h, S.nf [] rfl trivial⟩
   | cons y1 ys1 =>
    rw [tumbref2_StepsFault_l1.eq_2] at h
    refine Fs (Fg (lv S (rn_lss (S.tm rfl) (S.tm rfl)) rfl ?_));clear S;intro a S
    refine Ld ?_
    replace S := S.nk [] [(0, V), (9, V), (10, iV (Ac.length : Int)), (11, iV (i1 : Int)), (12, bV (decide ((i1 : Int) < (Ac.length : Int))))] [] rfl (subR rfl)
    refine Tn (Fs (wp_cond_true ((S.tm rfl).trans (congrArg Value.bool (rng_cons hd1 hi1))) (wp_skip (Tn (Fs (wp_block ?_))))))
    refine Fs (Fg (lv S (Rm (S.tm rfl)) rfl ?_));clear S;intro a S
    obtain ⟨b1, o1, hm1, hr1⟩ := rn_indexT (a := a) (x := .tmp 9) (y := .tmp 11) (ty := 0) sl_26 Ag (get_mid hd1 hi1) rfl (S.tm rfl) (S.tm rfl)
    refine lv S (hr1 _) rfl ?_;clear S;intro a S
    clear hr1
    refine lv S (rn_ldA Tryz.isAgg39 Tryz.sizeOf39 (off := o1) (o := 0) (part := (GStep.enc y1)) rfl rfl (S.tm rfl) (hm1.at S.emb0)) rfl ?_;clear S;intro a S
    refine l_alloc S Tryz.zeroValue39 (cs := [iV 0, iV 0, sV k_empty, sV k_empty, sV k_empty, sV k_empty, iV 0, iV 0]) rfl rfl ?_;clear S;intro a w3 b2 hz1 hk1 S
    refine lv S (Ra (S.tm rfl)) rfl ?_;clear S;intro a S
    refine l_store S (S.tm rfl) (S.tm rfl) (i := 0) (off := 0) rfl Tryz.sizeOf39 (vs := (GStep.enc y1)) rfl rfl rfl rfl ?_;clear S;intro w4 hk2 S
    refine Ld (Tn (Fs (Fs (Fg (lv S (rn_ldA Tryz.isAgg39 Tryz.sizeOf39 (off := 0) (o := 0) (part := (GStep.enc y1)) rfl rfl (S.tm rfl) (S.cellsAt (i := 0) rfl)) rfl ?_)))));clear S;intro a S
    obtain ⟨r1, hr2, h⟩ := bindE h
    refine l_enter S (fun _ => run_call (vs := [.agg (GStep.enc y1).toArray]) ⟨(S.tm rfl), trivial⟩ Tryz.call34) (tumbref2_StepFault_ok _ y1 _ hr2) rfl ?_;clear S;intro v1 a w5 hv1 hk3 hn1 S
    subst hv1
    refine lv S (Ra (S.tm rfl)) rfl ?_;clear S;intro a S
    refine Ld (Tn (Fs (Fg (lv S (Rm (S.tm rfl)) rfl ?_))));clear S;intro a S
    refine lv S (rn_neq (S.tm rfl) rfl) rfl ?_;clear S;intro a S
    refine Ld ?_
    replace S := S.nk [.blk b2 (GStep.enc y1) 39] [(0, V), (3, iV (i1 : Int)), (4, .pointer (some ⟨b2, 0, none⟩)), (5, iV r1), (9, V), (10, iV (Ac.length : Int)), (11, iV (i1 : Int)), (19, bV (!decide (r1 = 0)))] [true] rfl (subR rfl)
    refine Tn (f_cond (S.tm rfl) (fun hb2 => ?_) (fun hb2 => ?_))
    ·replace h := iteT h hb2
     refine Fs (Fg (lv S (Rm (S.tm rfl)) rfl ?_));clear S;intro a S
     refine lv S (Ra (S.tm rfl)) rfl ?_;clear S;intro a S
     refine Ld (Tn (wp_ret (then_r (blk_r (then_r (then_r ?_))))))
     refine blk_r (then_r (then_r ?_))
     obtain rfl := Option.some.inj h
     exact f_ret S Tryz.results8 rfl rfl
    ·replace h := iteF h hb2
     refine wp_skip (Tn (Fs ?_))
     obtain ⟨j2, hj2, h⟩ := joinE h
     refine f_join (fun a w' => ∃ x1 : Bool, j2 x1 = some r ∧ Sx w [] nov [] [(0, V), (9, V), (10, iV (Ac.length : Int)), (11, iV (i1 : Int)), (32, bV x1)] 34 a w') ?_ ?_
     ·rcases Bool.eq_false_or_eq_true (decide (0 < (i1 : Int))) with hb3 | hb3
      ·replace h := iteT h hb3
       obtain ⟨hc1, h⟩ := chkE h
       refine d_region [] ([]) Tryz.mixed S rfl (by kernel_rfl) ?_;clear S;intro w8 hk5 hsel S
       refine d_quiet 0 S hsel rfl rfl rfl (by kernel_rfl) (by kernel_rfl) rfl (fun _ hw => (Rm (S.tm rfl))) ?_;clear S;intro a S
       refine d_quiet 1 S hsel rfl rfl rfl (by kernel_rfl) (by kernel_rfl) rfl (fun _ hw => (rn_gtr (S.tm rfl) rfl)) ?_;clear S;intro a S
       refine d_quiet 2 S hsel rfl rfl rfl (by kernel_rfl) (by kernel_rfl) rfl (fun _ hw => (Rm (S.tm rfl))) ?_;clear S;intro a S
       refine d_quiet_g 3 S hsel rfl rfl rfl rfl hb3 rfl rfl (by kernel_rfl) (by kernel_rfl) rfl (fun _ hw => (Rm (S.tm rfl))) ?_;clear S;intro a S
       refine d_quiet_g 4 S hsel rfl rfl rfl rfl hb3 rfl rfl (by kernel_rfl) (by kernel_rfl) rfl (fun _ hw => (Rm (S.tm rfl))) ?_;clear S;intro a S
       refine d_quiet_g 5 S hsel rfl rfl rfl rfl hb3 rfl rfl (by kernel_rfl) (by kernel_rfl) rfl (fun _ hw => (rn_sub (S.tm rfl) rfl)) ?_;clear S;intro a S
       obtain ⟨b4, o3, hm3, hr4⟩ := rn_indexT (a := a) (x := .tmp 24) (y := .tmp 26) (ty := 0) sl_26 (Ag.mono (S.le_arg nil_sub)) (inB_get hc1).1 (inB_get hc1).2 (S.tm rfl) (S.tm rfl)
       refine d_quiet_g 6 S hsel rfl rfl rfl rfl hb3 rfl rfl (by kernel_rfl) (by kernel_rfl) rfl (fun _ hw => hr4 _) ?_;clear S;intro a S
       clear hr4
       refine d_quiet_g 7 S hsel rfl rfl rfl rfl hb3 rfl rfl (by kernel_rfl) (by kernel_rfl) rfl (fun _ hw => (rn_ldA Tryz.isAgg39 Tryz.sizeOf39 (off := o3) (o := 0) (part := (GStep.enc (nth Ac (W ((i1 : Int) - 1))))) rfl rfl (S.tm rfl) (hm3.kept hw))) ?_;clear S;intro a S
       refine d_quiet_g 8 S hsel rfl rfl rfl rfl hb3 rfl rfl (by kernel_rfl) (by kernel_rfl) rfl (fun _ hw => (rn_ldA Tryz.isAgg39 Tryz.sizeOf39 (off := 0) (o := 0) (part := (GStep.enc y1)) rfl rfl (S.tm rfl) ((S.blk_mem (i := 0) (cells := (GStep.enc y1)) (b := b2) (T := 39) rfl (ne_nil (e' := .blk b2 (GStep.enc y1) 39))).kept hw))) ?_;clear S;intro a S
       refine d_loud1 9 (by kernel_rfl) rfl (l_want S rfl rfl rfl hb3 (l_enter S (fun _ => run_call (vs := [.agg (GStep.enc (nth Ac (W ((i1 : Int) - 1)))).toArray, .agg (GStep.enc y1).toArray]) ⟨(S.tm rfl), (S.tm rfl), trivial⟩ Tryz.call21) (tumbref2_StepOrder_ok _ (nth Ac (W ((i1 : Int) - 1))) y1 _ rfl) rfl ?_));clear S;intro v3 a w9 hv3 hk6 hn3 S
       subst hv3
       refine Ld (d_next hk6 (d_rest [10, 11] hsel (by kernel_rfl) rfl ?_))
       clear hsel
       refine s_want S rfl rfl rfl rfl hb3 (s_lv0 S (rn_geq (S.tm rfl) rfl) rfl ?_);clear S;intro a S
       refine s_lv S rfl (rn_pick_b hb3 (S.tm rfl) (S.tm rfl)) rfl ?_;clear S;intro a S
       refine s_done ?_
       replace S := S.nk [] [(0, V), (9, V), (10, iV (Ac.length : Int)), (11, iV (i1 : Int)), (24, V), (25, iV (i1 : Int)), (26, iV (W ((i1 : Int) - 1))), (27, .pointer (some ⟨b4, o3, none⟩)), (28, .agg (GStep.enc (nth Ac (W ((i1 : Int) - 1)))).toArray), (29, .agg (GStep.enc y1).toArray), (30, iV (tumbref2_StepOrder (nth Ac (W ((i1 : Int) - 1))) y1)), (31, bV (decide (0 ≤ (tumbref2_StepOrder (nth Ac (W ((i1 : Int) - 1))) y1)))), (32, bV (decide (0 ≤ (tumbref2_StepOrder (nth Ac (W ((i1 : Int) - 1))) y1))))] [false] rfl (subR rfl)
       refine Tn ?_
       exact ⟨decide (0 ≤ (tumbref2_StepOrder (nth Ac (W ((i1 : Int) - 1))) y1)), h, S.nf [] rfl (subR rfl)⟩
      ·replace h := iteF h hb3
       refine d_region [] ([]) Tryz.mixed S rfl (by kernel_rfl) ?_;clear S;intro w10 hk7 hsel S
       refine d_rest [0, 1, 2, 3, 4, 5, 6, 7, 8, 9, 10, 11] hsel (by kernel_rfl) rfl ?_
       clear hsel
       refine s_lv S rfl (Rm (S.tm rfl)) rfl ?_;clear S;intro a S
       refine s_lv S rfl (rn_gtr (S.tm rfl) rfl) rfl ?_;clear S;intro a S
       refine s_lv S rfl (Rm (S.tm rfl)) rfl ?_;clear S;intro a S
       iterate 8 (refine s_skip S rfl rfl rfl rfl (neq_f hb3) rfl ?_ rfl;clear S;intro a S)
       refine s_lv S rfl (rn_pick_c hb3 (S.tm rfl) rfl) rfl ?_;clear S;intro a S
       refine s_done ?_
       replace S := S.nk [] [(0, V), (9, V), (10, iV (Ac.length : Int)), (11, iV (i1 : Int)), (32, bV false)] [false] rfl (subR rfl)
       refine Tn ?_
       exact ⟨false, h, S.nf [] rfl (subR rfl)⟩
     clear S h;rintro a w6 ⟨x1, h, S⟩;rw [hj2] at h;clear hj2 j2
     refine Tn (f_cond (S.tm rfl) (fun hb4 => ?_) (fun hb4 => ?_))
     ·replace h := iteT h hb4
      refine Fs (Fg (lv S (Ra rfl) rfl ?_));clear S;intro a S
      refine Ld (Tn (wp_ret (blk_r (then_r (then_r (blk_r ?_))))))
      refine then_r (then_r ?_)
      obtain rfl := Option.some.inj h
      exact f_ret S Tryz.results8 rfl rfl
     ·replace h := iteF h hb4
      refine wp_skip (blk_n (Tn (Fg (lv S (rn_add (S.tm rfl) rfl) rfl ?_))));clear S;intro a S
      refine lv S (Rm (S.tm rfl)) rfl ?_;clear S;intro a S
      refine Ld (Tn ?_)
      exact ⟨ys1, ⟨i1 + 1, ⟨_, (hd1).trans (List.append_cons _ _ _), by simp [hi1]⟩, h, S.nf [] rfl ⟨rfl, rfl, rfl, (congrArg (fun z => some (Value.int .i64 z)) (rng_next hd1 hi1 (slc_max Ag))), trivial⟩⟩, Nat.lt_succ_self _⟩
  clear S h;rintro a w2 ⟨h, S⟩;rw [hj1] at h;clear hj1 j1
  refine Tn (Fs (Fg (lv S (Ra rfl) rfl ?_)));clear S;intro a S
  refine Ld (Tn (wp_ret ?_))
  obtain rfl := Option.some.inj h
  exact f_ret S Tryz.results8 rfl rfl
theorem Stream_RightSteps_ok (w : World) (O : Nat) (U : Value) (Ae : List Int) (Ad : Slc (view w [O]) 1 U (Ae.map eInt)) (Ab : Int) (Aw : (LEnt.blk O [U, iV Ab] 25).holds w) (Ao : Int) (r : (List GStep) × Int) (h : Stream_RightSteps Ae Ab Ao = some r) :
    Calls Tryz.prog 24 [.pointer (some ⟨O, 0, none⟩), iV Ao].toArray w (Ret w [O] fun τ v w' => (LEnt.blk O [U, iV r.2] 25).holds w' ∧ OwnV τ 39 8 v r.1.length (r.1.flatMap GStep.enc)) := by
 refine f_enter [O] [.blk O [U, iV Ab] 25] Tryz.func24 rfl Tryz.ntmps24 rfl (fun e he => by simp only [List.mem_singleton] at he;subst he;exact Aw) (by simp [fps, LEnt.fp]) (by simp [fps, LEnt.fp]) fun a S => ?_
 unfold Stream_RightSteps at h
 replace S := S.nk [.blk O [U, iV Ab] 25] [(0, .pointer (some ⟨O, 0, none⟩)), (1, iV Ao)] [true] rfl (subR rfl)
 refine Fs (Fg (lv S (Ra rfl) rfl ?_));clear S;intro a S
 refine Ld (Tn (Fs (Fs (Fg (lv S (Rm rfl) rfl ?_)))));clear S;intro a S
 refine Ld (Tn ?_)
 replace S := S.nk [.blk O [U, iV Ab] 25] [(0, .pointer (some ⟨O, 0, none⟩)), (1, iV Ao), (6, iV 0)] [true] rfl (subR rfl)
 obtain ⟨j1, hj1, h⟩ := joinE h
 refine f_join (fun a w' => ∃ x1 : Int, ∃ φ1 : View, j1 x1 = some r ∧ View.le nov φ1 ∧ Sx w [O] φ1 [.blk O [U, iV x1] 25] [] 16 a w') ?_ ?_
 ·refine wp_block (f_loop (fun (m1 : Nat) a w' => ∃ x1 : Int, ∃ x2 : Int, ∃ φ1 : View, Stream_RightSteps_l1 Ae Ao j1 m1 x1 x2 = some r ∧ View.le nov φ1 ∧ Sx w [O] φ1 [.blk O [U, iV x1] 25] [(0, .pointer (some ⟨O, 0, none⟩)), (1, iV Ao), (6, iV x2)] 16 a w') id 7 ⟨Ab, 0, nov, h, View.le_refl _, S.nf [true] rfl (subR rfl)⟩ ?_)
  clear S h;rintro m1 a w1 ⟨x1, x2, φ1, h, hl1, S⟩
  cases m1 with
  | zero => rw [Stream_RightSteps_l1.eq_1] at h;cases h
  | succ m1 =>
   rw [Stream_RightSteps_l1.eq_2] at h
   refine Fs (Fg (lv S (rn_lss (S.tm rfl) rfl) rfl ?_));clear S;intro a S
   refine Ld (Tn (Fs (f_cond (S.tm rfl) (fun hb1 => ?_) (fun hb1 => ?_))))
   ·replace h := iteT h hb1
    refine wp_skip (Tn (Fs (wp_block (Fs (Fg (lv S (Rm (S.tm rfl)) rfl ?_))))));clear S;intro a S
    refine lv S (Rm (S.tm rfl)) rfl ?_;clear S;intro a S
    obtain ⟨r1, hr1, h⟩ := bindE h
    have hz1 := S.keep.size
    refine l_enter1 0 S (b := O) rfl rfl (fun _ => .blk O [U, iV r1.2] 25) (fun _ => run_call (vs := [.pointer (some ⟨O, 0, none⟩), iV Ao]) ⟨(S.tm rfl), (S.tm rfl), trivial⟩ Tryz.call4) (Stream_Steps_ok _ O U Ae (Ad.mono (S.le_arg (fp_sub (i := 0) (e := .blk O [U, iV x1] 25) rfl))) x1 (S.holds _ (List.mem_of_getElem? (i := 0) rfl)) Ao _ hr1) rfl (fun _ _ _ h => ⟨h.1, fun _ hc => by cases hc;rfl⟩) ?_;clear S;intro v1 a w3 hv1 hk1 hn1 S
    replace hv1 := hv1.2
    obtain ⟨φ2, hl2, hm1, S⟩ := S.see' hn1 hz1
    have hs1 := hv1.mono hm1
    refine lv S (Ra (S.tm rfl)) rfl ?_;clear S;intro a S
    refine Ld (Tn (Fs (Fg (lv S (Rm (S.tm rfl)) rfl ?_))));clear S;intro a S
    obtain ⟨r2, hr2, h⟩ := bindE h
    refine l_enter S (fun _ => run_call (vs := [v1]) ⟨(S.tm rfl), trivial⟩ Tryz.call8) (tumbref2_StepsFault_ok _ v1 r1.1 ((ownV_slcT GStep.enc_ok hs1).mono (S.le_new nil_sub)) _ hr2) rfl ?_;clear S;intro v2 a w4 hv2 hk2 hn2 S
    subst hv2
    refine lv S (rn_eql (S.tm rfl) rfl) rfl ?_;clear S;intro a S
    refine Ld (Tn (f_cond (S.tm rfl) (fun hb2 => ?_) (fun hb2 => ?_)))
    ·replace h := iteT h hb2
     refine Fs (Fg (lv S (Rm (S.tm rfl)) rfl ?_));clear S;intro a S
     refine lv S (Ra (S.tm rfl)) rfl ?_;clear S;intro a S
     refine Ld (Tn (wp_ret (blk_r (then_r (then_r (blk_r ?_))))))
     refine then_r (then_r ?_)
     obtain rfl := Option.some.inj h
     exact f_ret S Tryz.results24 rfl ⟨(S.holds _ (List.mem_of_getElem? (i := 0) rfl)), ((hs1).mono S.le_newer)⟩
    ·replace h := iteF h hb2
     refine wp_skip (blk_n (Tn (Fg (lv S (rn_add (S.tm rfl) rfl) rfl ?_))));clear S;intro a S
     refine lv S (Rm (S.tm rfl)) rfl ?_;clear S;intro a S
     refine Ld (Tn ?_)
     exact ⟨m1, ⟨r1.2, W (x2 + 1), φ2, h, (View.le_trans hl1 hl2), S.nf [true] rfl ⟨rfl, rfl, rfl, trivial⟩⟩, Nat.lt_succ_self _⟩
   ·replace h := iteF h hb1
    refine wp_exit (then_x (then_x (x_same (Tn ?_))))
    exact ⟨x1, φ1, h, hl1, S.nf [true] rfl trivial⟩
 clear S h;rintro a w2 ⟨x1, φ1, h, hl1, S⟩;rw [hj1] at h;clear hj1 j1
 refine Tn (Fs (Fg (lv S (Ra rfl) rfl ?_)));clear S;intro a S
 refine Ld (Tn (wp_ret ?_))
 obtain rfl := Option.some.inj h
 exact f_ret S Tryz.results24 rfl ⟨(S.holds _ (List.mem_of_getElem? (i := 0) rfl)), (ownV_nil _ _ _)⟩
theorem strconv_Itoa_ok (w : World) (n : Int) (hg_pow10 : Glob (view w []) 1 pow10Cells) (r : ByteArray) (h : strconv_Itoa n = some r) : Calls Tryz.prog 27 [iV n].toArray w (Ret w [] fun _ v _ => v = .string r) := by
  unfold strconv_Itoa at h
  obtain ⟨hc, h⟩ := chkE h
  simp only [Bool.and_eq_true, decide_eq_true_eq] at hc
  obtain rfl := Option.some.inj h
  exact ret_of_grow (Any.strconv_Itoa Tryz.lays171 n hc.1 hc.2 w (hg_pow10.tab (by kernel_rfl)))
theorem strings_Join_ok (w : World) (v_xs : Value) (xs : List ByteArray) (hs_xs : Slc (view w []) 1 v_xs (xs.map eStr)) (sep : ByteArray) (r : ByteArray) (h : strings_Join xs sep = some r) : Calls Tryz.prog 31 [v_xs, sV sep].toArray w (Ret w [] fun _ v _ => v = .string r) := by
  unfold strings_Join at h
  obtain ⟨hc, h⟩ := chkE h
  simp only [Bool.and_eq_true, decide_eq_true_eq] at hc
  obtain rfl := Option.some.inj h
  exact join_ret Tryz.lays156 Tryz.bx156 v_xs xs sep w hs_xs hc.1 hc.2
theorem tumbref2_numbers_ok (w : World) (V : Value) (Ac : List Int) (Ag : Slc (view w []) 1 V (Ac.map eInt)) (hg_pow10 : Glob (view w []) 1 pow10Cells) (r : ByteArray) (h : tumbref2_numbers Ac = some r) :
    Calls Tryz.prog 35 [V].toArray w (Ret w [] fun _ v _ => v = sV r) := by
 refine f_enter [] [] Tryz.func35 rfl Tryz.ntmps35 rfl (by simp) (by simp [fps]) (by simp [fps]) fun a S => ?_
 unfold tumbref2_numbers at h
 replace S := S.nk [] [(0, V)] [] rfl ⟨rfl, trivial⟩
 refine Fs (Fg (lv S (Ra rfl) rfl ?_));clear S;intro a S
 refine Ld (Tn (Fs (Fg (lv S (Ra rfl) rfl ?_))));clear S;intro a S
 replace S := S.nil 9 1
 refine Ld (Tn (Fs (Fs (Fg (lv S (Rm (S.tm rfl)) rfl ?_)))));clear S;intro a S
 refine lv S (rn_lenT sl_22 (S.tm rfl) (slc_len Ag)) rfl ?_;clear S;intro a S
 refine lv S (Rm rfl) rfl ?_;clear S;intro a S
 refine Ld (Tn ?_)
 replace S := S.nk [.own (.slice none 0 0) 9 1 ([] : List ByteArray).length (([] : List ByteArray).flatMap eStr)] [(3, (.slice none 0 0)), (6, V), (7, iV (Ac.length : Int)), (8, iV 0)] [true] rfl (subR rfl)
 obtain ⟨j1, hj1, h⟩ := joinE h
 refine f_join (fun a w' => ∃ x1 : List ByteArray, ∃ v1 : Value, j1 x1 = some r ∧ Sx w [] nov [.own v1 9 1 x1.length (x1.flatMap eStr)] [(3, v1)] 20 a w') ?_ ?_
 ·refine wp_block (f_loop (fun (ys1 : List Int) a w' => ∃ i1 : Nat, ∃ x1 : List ByteArray, ∃ v1 : Value, (∃ dn, Ac = dn ++ ys1 ∧ dn.length = i1) ∧ tumbref2_numbers_l1 j1 ys1 i1 x1 = some r ∧ Sx w [] nov [.own v1 9 1 x1.length (x1.flatMap eStr)] [(3, v1), (6, V), (7, iV (Ac.length : Int)), (8, iV (i1 : Int))] 20 a w') List.length Ac ⟨0, ([] : List ByteArray), (.slice none 0 0), ⟨[], rfl, rfl⟩, h, S.nf [true] rfl (subR rfl)⟩ ?_)
  clear S h;rintro ys1 a w1 ⟨i1, x1, v1, ⟨dn, hd1, hi1⟩, h, S⟩
  cases ys1 with
  | nil =>
   rw [tumbref2_numbers_l1.eq_1] at h
   refine Fs (Fg (lv S (rn_lss (S.tm rfl) (S.tm rfl)) rfl ?_));clear S;intro a S
   refine Ld ?_
   replace S := S.nk [.own v1 9 1 x1.length (x1.flatMap eStr)] [(3, v1), (6, V), (7, iV (Ac.length : Int)), (8, iV (i1 : Int)), (9, bV (decide ((i1 : Int) < (Ac.length : Int))))] [true] rfl (subR rfl)
   refine Tn (Fs (wp_cond_false ((S.tm rfl).trans (congrArg Value.bool (rng_nil hd1 hi1))) (wp_exit (then_x (then_x (x_same ?_))))))
   refine Tn ?_
   exact ⟨x1, v1, h, S.nf [true] rfl ⟨rfl, trivial⟩⟩
  | cons y1 ys1 =>
   rw [tumbref2_numbers_l1.eq_2] at h
   refine Fs (Fg (lv S (rn_lss (S.tm rfl) (S.tm rfl)) rfl ?_));clear S;intro a S
   refine Ld ?_
   replace S := S.nk [.own v1 9 1 x1.length (x1.flatMap eStr)] [(3, v1), (6, V), (7, iV (Ac.length : Int)), (8, iV (i1 : Int)), (9, bV (decide ((i1 : Int) < (Ac.length : Int))))] [true] rfl (subR rfl)
   refine Tn (Fs (wp_cond_true ((S.tm rfl).trans (congrArg Value.bool (rng_cons hd1 hi1))) (wp_skip (Tn (Fs (wp_block ?_))))))
   refine Fs (Fg ?_)
   obtain ⟨b1, o1, hm1, hr1⟩ := rn_indexT (a := a) (x := .tmp 6) (y := .tmp 8) (ty := 0) sl_22 Ag (get_mid hd1 hi1) rfl (S.tm rfl) (S.tm rfl)
   refine lv S (hr1 _) rfl ?_;clear S;intro a S
   clear hr1
   refine lv S (rn_ld Tryz.isAgg3 (off := o1) (o := 0) (S.tm rfl) (hm1.at S.emb0) rfl) rfl ?_;clear S;intro a S
   refine lv S (Ra (S.tm rfl)) rfl ?_;clear S;intro a S
   refine Ld (Tn (Fg (lv S (Rm (S.tm rfl)) rfl ?_)));clear S;intro a S
   refine lv S (Rm (S.tm rfl)) rfl ?_;clear S;intro a S
   obtain ⟨r1, hr2, h⟩ := bindE h
   refine l_enter S (fun _ => run_call (vs := [iV y1]) ⟨(S.tm rfl), trivial⟩ Tryz.call27) (strconv_Itoa_ok _ y1 (hg_pow10.mono (S.le_arg nil_sub)) _ hr2) rfl ?_;clear S;intro v2 a w3 hv1 hk1 hn1 S
   subst hv1
   refine l_buildSlice S Tryz.underlying57 Tryz.sizeOf9 Tryz.zeroValue9 rfl rfl (pv := [(0, sV r1)]) ⟨rfl, (S.tm rfl), trivial⟩ (cs := [sV r1]) (by kernel_rfl) rfl ?_;clear S;intro a w4 b2 hz1 hk2 S
   obtain ⟨hc1, h⟩ := chkE h
   refine l_appendT sl_57 enc_str S (S.tm rfl) (i := 1) rfl (S.tm rfl) (j := 0) rfl (ys := [r1]) rfl rfl rfl rfl (by have := room_lt hc1;omega) rfl ?_;clear S;intro v3 a w5 hk3 S
   refine lv S (Ra (S.tm rfl)) rfl ?_;clear S;intro a S
   refine Ld (blk_n (Tn (Fg (lv S (rn_add (S.tm rfl) rfl) rfl ?_))));clear S;intro a S
   refine lv S (Rm (S.tm rfl)) rfl ?_;clear S;intro a S
   refine Ld (Tn ?_)
   exact ⟨ys1, ⟨i1 + 1, (x1 ++ [r1]), v3, ⟨_, (hd1).trans (List.append_cons _ _ _), by simp [hi1]⟩, h, S.nf [false, true] rfl ⟨rfl, rfl, rfl, (congrArg (fun z => some (Value.int .i64 z)) (rng_next hd1 hi1 (slc_max Ag))), trivial⟩⟩, Nat.lt_succ_self _⟩
 clear S h;rintro a w2 ⟨x1, v1, h, S⟩;rw [hj1] at h;clear hj1 j1
 refine Tn (Fs (Fg (lv S (Rm (S.tm rfl)) rfl ?_)));clear S;intro a S
 obtain ⟨r2, hr3, h⟩ := bindE h
 refine l_enter S (fun _ => run_call (vs := [v1, sV k__20]) ⟨(S.tm rfl), rfl, trivial⟩ Tryz.call31) (strings_Join_ok _ v1 x1 (own_slcT enc_str S (i := 0) rfl (ne_nil (e' := .own v1 9 1 x1.length (x1.flatMap eStr)))) k__20 _ hr3) rfl ?_;clear S;intro v4 a w6 hv2 hk4 hn2 S
 subst hv2
 refine lv S (Ra (S.tm rfl)) rfl ?_;clear S;intro a S
 refine Ld (Tn (wp_ret ?_))
 obtain rfl := Option.some.inj h
 exact f_ret S Tryz.results35 rfl rfl
theorem tumbref2_stepWords_ok (w : World) (r : (List ByteArray)) (h : tumbref2_stepWords = r) :
    Calls Tryz.prog 36 [].toArray w (Ret w [] fun τ v _ => OwnV τ 9 1 v r.length (r.flatMap eStr)) := by
 refine f_enter [] [] Tryz.func36 rfl Tryz.ntmps36 rfl (by simp) (by simp [fps]) (by simp [fps]) fun a S => ?_
 unfold tumbref2_stepWords at h
 replace S := S.nk [] [] [] rfl trivial
 refine Fs (Fg (lv S (Ra rfl) rfl ?_));clear S;intro a S
 refine Ld (Tn (Fs (Fg (l_buildSlice S Tryz.underlying57 Tryz.sizeOf9 Tryz.zeroValue9 rfl rfl (pv := [(0, sV k_empty), (1, sV k_swum), (2, sV k_ratified), (3, sV k_void)]) ⟨rfl, rfl, rfl, rfl, rfl, rfl, rfl, rfl, trivial⟩ (cs := [sV k_empty, sV k_swum, sV k_ratified, sV k_void]) (by kernel_rfl) rfl ?_))));clear S;intro a w1 b1 hz1 hk1 S
 refine lv S (Ra (S.tm rfl)) rfl ?_;clear S;intro a S
 refine Ld (Tn (wp_ret ?_))
 replace S := S.litOwn (i := 0) (xs := [k_empty, k_swum, k_ratified, k_void]) rfl enc_str rfl rfl rfl
 replace S := S.nk [.own (.slice (some ⟨b1, 0, none⟩) 4 4) 9 1 ([k_empty, k_swum, k_ratified, k_void] : List ByteArray).length (([k_empty, k_swum, k_ratified, k_void] : List ByteArray).flatMap eStr)] [(0, (.slice (some ⟨b1, 0, none⟩) 4 4)), (1, (.slice (some ⟨b1, 0, none⟩) 4 4))] [] rfl (subR rfl)
 subst h
 exact f_ret S Tryz.results36 rfl (own_retT S (i := 0) rfl rfl)
theorem tumbref2_dash_ok (w : World) (Z : ByteArray) (r : ByteArray) (h : tumbref2_dash Z = r) :
    Calls Tryz.prog 37 [sV Z].toArray w (Ret w [] fun _ v _ => v = sV r) := by
 refine f_enter [] [] Tryz.func37 rfl Tryz.ntmps37 rfl (by simp) (by simp [fps]) (by simp [fps]) fun a S => ?_
 unfold tumbref2_dash at h
 replace S := S.nk [] [(0, sV Z)] [] rfl ⟨rfl, trivial⟩
 refine Fs (Fg (lv S (Ra rfl) rfl ?_));clear S;intro a S
 refine Ld (Tn (Fs (Fs (Fg (lv S (Rm (S.tm rfl)) rfl ?_)))));clear S;intro a S
 refine lv S (rn_seql (S.tm rfl) rfl) rfl ?_;clear S;intro a S
 refine Ld (Tn (f_cond (S.tm rfl) (fun hb1 => ?_) (fun hb1 => ?_)))
 ·replace h := iteT h hb1
  refine Fs (Fg (lv S (Ra rfl) rfl ?_));clear S;intro a S
  refine Ld (Tn (wp_ret (then_r ?_)))
  subst h
  exact f_ret S Tryz.results37 rfl rfl
 ·replace h := iteF h hb1
  refine wp_skip (Tn (Fs (Fg (lv S (Rm (S.tm rfl)) rfl ?_))));clear S;intro a S
  refine lv S (Ra (S.tm rfl)) rfl ?_;clear S;intro a S
  refine Ld (Tn (wp_ret ?_))
  subst h
  exact f_ret S Tryz.results37 rfl rfl
set_option maxRecDepth 20000 in
theorem tumbref2_StepLines_ok (w : World) (V : Value) (Ac : List GStep) (Ag : Slc (view w []) 8 V (Ac.map GStep.enc)) (hg_pow10 : Glob (view w []) 1 pow10Cells) (r : ByteArray) (h : tumbref2_StepLines Ac = some r) :
    Calls Tryz.prog 9 [V].toArray w (Ret w [] fun _ v _ => v = sV r) := by
 refine f_enter [] [] Tryz.func9 rfl Tryz.ntmps9 rfl (by simp) (by simp [fps]) (by simp [fps]) fun a S => ?_
 unfold tumbref2_StepLines at h
 replace S := S.nk [] [(0, V)] [] rfl ⟨rfl, trivial⟩
 refine Fs (Fg (lv S (Ra rfl) rfl ?_));clear S;intro a S
 refine Ld (Tn (Fs (Fg (lv S (Ra rfl) rfl ?_))));clear S;intro a S
 refine Ld (Tn (Fs (Fs (Fg (lv S (Rm (S.tm rfl)) rfl ?_)))));clear S;intro a S
 refine lv S (rn_lenT sl_26 (S.tm rfl) (slc_len Ag)) rfl ?_;clear S;intro a S
 refine lv S (Rm rfl) rfl ?_;clear S;intro a S
 refine Ld (Tn ?_)
 replace S := S.nk [] [(3, sV k_empty), (6, V), (7, iV (Ac.length : Int)), (8, iV 0)] [] rfl (subR rfl)
 obtain ⟨j1, hj1, h⟩ := joinE h
 refine f_join (fun a w' => ∃ x1 : ByteArray, ∃ φ1 : View, j1 x1 = some r ∧ View.le nov φ1 ∧ Sx w [] φ1 [] [(3, sV x1)] 58 a w') ?_ ?_
 ·refine wp_block (f_loop (fun (ys1 : List GStep) a w' => ∃ i1 : Nat, ∃ x1 : ByteArray, ∃ φ1 : View, (∃ dn, Ac = dn ++ ys1 ∧ dn.length = i1) ∧ tumbref2_StepLines_l1 j1 ys1 i1 x1 = some r ∧ View.le nov φ1 ∧ Sx w [] φ1 [] [(3, sV x1), (6, V), (7, iV (Ac.length : Int)), (8, iV (i1 : Int))] 58 a w') List.length Ac ⟨0, k_empty, nov, ⟨[], rfl, rfl⟩, h, View.le_refl _, S.nf [] rfl (subR rfl)⟩ ?_)
  clear S h;rintro ys1 a w1 ⟨i1, x1, φ1, ⟨dn, hd1, hi1⟩, h, hl1, S⟩
  cases ys1 with
  | nil =>
   rw [tumbref2_StepLines_l1.eq_1] at h
   refine Fs (Fg (lv S (rn_lss (S.tm rfl) (S.tm rfl)) rfl ?_));clear S;intro a S
   refine Ld ?_
   replace S := S.nk [] [(3, sV x1), (6, V), (7, iV (Ac.length : Int)), (8, iV (i1 : Int)), (9, bV (decide ((i1 : Int) < (Ac.length : Int))))] [] rfl (subR rfl)
   refine Tn (Fs (wp_cond_false ((S.tm rfl).trans (congrArg Value.bool (rng_nil hd1 hi1))) (wp_exit (then_x (then_x (x_same ?_))))))
   refine Tn ?_
   exact ⟨x1, φ1, h, hl1, S.nf [] rfl ⟨rfl, trivial⟩⟩
  | cons y1 ys1 =>
   rw [tumbref2_StepLines_l1.eq_2] at h
   refine Fs (Fg (lv S (rn_lss (S.tm rfl) (S.tm rfl)) rfl ?_));clear S;intro a S
   refine Ld ?_
   replace S := S.nk [] [(3, sV x1), (6, V), (7, iV (Ac.length : Int)), (8, iV (i1 : Int)), (9, bV (decide ((i1 : Int) < (Ac.length : Int))))] [] rfl (subR rfl)
   refine Tn (Fs (wp_cond_true ((S.tm rfl).trans (congrArg Value.bool (rng_cons hd1 hi1))) (wp_skip (Tn (Fs (wp_block ?_))))))
   refine Fs (Fg ?_)
   obtain ⟨b1, o1, hm1, hr1⟩ := rn_indexT (a := a) (x := .tmp 6) (y := .tmp 8) (ty := 0) sl_26 Ag (get_mid hd1 hi1) rfl (S.tm rfl) (S.tm rfl)
   refine lv S (hr1 _) rfl ?_;clear S;intro a S
   clear hr1
   refine lv S (rn_ldA Tryz.isAgg39 Tryz.sizeOf39 (off := o1) (o := 0) (part := (GStep.enc y1)) rfl rfl (S.tm rfl) (hm1.at S.emb0)) rfl ?_;clear S;intro a S
   refine l_alloc S Tryz.zeroValue39 (cs := [iV 0, iV 0, sV k_empty, sV k_empty, sV k_empty, sV k_empty, iV 0, iV 0]) rfl rfl ?_;clear S;intro a w3 b2 hz1 hk1 S
   refine l_store S (S.tm rfl) (S.tm rfl) (i := 0) (off := 0) rfl Tryz.sizeOf39 (vs := (GStep.enc y1)) rfl rfl rfl rfl ?_;clear S;intro w4 hk2 S
   refine Ld (Tn (Fs ?_))
   obtain ⟨r1, hr2, h⟩ := bindE h
   obtain ⟨hc1, h⟩ := chkE h
   refine d_region [] ([]) Tryz.mixed S rfl (by kernel_rfl) ?_;clear S;intro w8 hk6 hsel S
   refine d_quiet 0 S hsel rfl rfl rfl (by kernel_rfl) (by kernel_rfl) rfl (fun _ hw => (Rm (S.tm rfl))) ?_;clear S;intro a S
   refine d_quiet 1 S hsel rfl rfl rfl (by kernel_rfl) (by kernel_rfl) rfl (fun _ hw => (rn_fld fa_39_0 (S.tm rfl))) ?_;clear S;intro a S
   refine d_quiet 2 S hsel rfl rfl rfl (by kernel_rfl) (by kernel_rfl) rfl (fun _ hw => (rn_ld Tryz.isAgg3 (off := 0) (o := 0) (S.tm rfl) ((S.blk_mem (i := 0) (cells := (GStep.enc y1)) (b := b2) (T := 39) rfl (ne_nil (e' := .blk b2 (GStep.enc y1) 39))).kept hw) rfl)) ?_;clear S;intro a S
   refine d_quiet 7 S hsel rfl rfl rfl (by kernel_rfl) (by kernel_rfl) rfl (fun _ hw => (rn_fld fa_39_1 (S.tm rfl))) ?_;clear S;intro a S
   refine d_quiet 8 S hsel rfl rfl rfl (by kernel_rfl) (by kernel_rfl) rfl (fun _ hw => (rn_ld Tryz.isAgg3 (off := 0) (o := 1) (S.tm rfl) ((S.blk_mem (i := 0) (cells := (GStep.enc y1)) (b := b2) (T := 39) rfl (ne_nil (e' := .blk b2 (GStep.enc y1) 39))).kept hw) rfl)) ?_;clear S;intro a S
   refine d_quiet 13 S hsel rfl rfl rfl (by kernel_rfl) (by kernel_rfl) rfl (fun _ hw => (rn_fld fa_39_2 (S.tm rfl))) ?_;clear S;intro a S
   refine d_quiet 14 S hsel rfl rfl rfl (by kernel_rfl) (by kernel_rfl) rfl (fun _ hw => (rn_ld Tryz.isAgg9 (off := 0) (o := 2) (S.tm rfl) ((S.blk_mem (i := 0) (cells := (GStep.enc y1)) (b := b2) (T := 39) rfl (ne_nil (e' := .blk b2 (GStep.enc y1) 39))).kept hw) rfl)) ?_;clear S;intro a S
   refine d_loud1 3 (by kernel_rfl) rfl (l_buildSlice S Tryz.underlying22 Tryz.sizeOf3 Tryz.zeroValue3 rfl rfl (pv := [(0, iV y1.At)]) ⟨rfl, (S.tm rfl), trivial⟩ (cs := [iV y1.At]) (by kernel_rfl) rfl ?_);clear S;intro a w9 b4 hz4 hk7 S
   refine Ld (d_next hk7 (d_loud1 4 (by kernel_rfl) rfl (l_enter S (fun _ => run_call (vs := [.slice (some ⟨b4, 0, none⟩) 1 1]) ⟨(S.tm rfl), trivial⟩ Tryz.call35) (tumbref2_numbers_ok _ (.slice (some ⟨b4, 0, none⟩) 1 1) [y1.At] (lit_slcT enc_int S (i := 0) rfl rfl rfl rfl ((ne_nil (e' := .blk b4 [iV y1.At] 3)) _ rfl)) (hg_pow10.mono (S.le_arg nil_sub)) _ hr2) rfl ?_)));clear S;intro v3 a w10 hv3 hk8 hn3 S
   subst hv3
   refine Ld (d_next hk8 ?_)
   refine d_quiet 5 S hsel rfl rfl rfl (by kernel_rfl) (by kernel_rfl) rfl (fun _ hw => (rn_sadd (m := r1) (n := k__20) (S.tm rfl) rfl (by have := room_lt hc1;omega))) ?_;clear S;intro a S
   refine d_loud1 6 (by kernel_rfl) rfl ?_
   have hz5 := S.keep.size
   refine l_enter S (fun _ => run_call (vs := []) trivial Tryz.call36) (tumbref2_stepWords_ok _ _ rfl) rfl ?_;clear S;intro v4 a w11 hv4 hk9 hn4 S
   obtain ⟨φ3, hl3, hm3, S⟩ := S.see' hn4 hz5
   have hs2 := hv4.mono hm3
   refine Ld (d_next hk9 (d_rest [9, 10, 11, 12, 15, 16, 17] hsel (by kernel_rfl) rfl ?_))
   clear hsel
   obtain ⟨hc2, h⟩ := chkE h
   obtain ⟨b5, o2, hm4, hr3⟩ := rn_indexT (a := a) (x := .tmp 18) (y := .tmp 20) (ty := 0) sl_57 (ownV_slcT enc_str hs2) (inB_get hc2).1 (inB_get hc2).2 (S.tm rfl) (S.tm rfl)
   refine s_lv S rfl (hr3 _) rfl ?_;clear S;intro a S
   clear hr3
   refine s_lv S rfl (rn_ld Tryz.isAgg9 (off := o2) (o := 0) (S.tm rfl) (hm4.at S.emb) rfl) rfl ?_;clear S;intro a S
   obtain ⟨hc3, h⟩ := chkE h
   refine s_lv S rfl (rn_sadd (m := (r1 ++ k__20)) (n := (nth tumbref2_stepWords y1.Kind)) (S.tm rfl) (S.tm rfl) (by have := room_lt hc3;omega)) rfl ?_;clear S;intro a S
   obtain ⟨hc4, h⟩ := chkE h
   refine s_lv S rfl (rn_sadd (m := ((r1 ++ k__20) ++ (nth tumbref2_stepWords y1.Kind))) (n := k__20) (S.tm rfl) rfl (by have := room_lt hc4;omega)) rfl ?_;clear S;intro a S
   obtain ⟨hc5, h⟩ := chkE h
   refine s_lv S rfl (rn_sadd (m := (((r1 ++ k__20) ++ (nth tumbref2_stepWords y1.Kind)) ++ k__20)) (n := y1.Id) (S.tm rfl) (S.tm rfl) (by have := room_lt hc5;omega)) rfl ?_;clear S;intro a S
   obtain ⟨hc6, h⟩ := chkE h
   refine s_lv S rfl (rn_sadd (m := x1) (n := ((((r1 ++ k__20) ++ (nth tumbref2_stepWords y1.Kind)) ++ k__20) ++ y1.Id)) (S.tm rfl) (S.tm rfl) (by have := room_lt hc6;omega)) rfl ?_;clear S;intro a S
   refine s_lv S rfl (Ra (S.tm rfl)) rfl ?_;clear S;intro a S
   refine s_done ?_
   replace S := S.nk [.blk b2 (GStep.enc y1) 39] [(3, sV (x1 ++ ((((r1 ++ k__20) ++ (nth tumbref2_stepWords y1.Kind)) ++ k__20) ++ y1.Id))), (5, .pointer (some ⟨b2, 0, none⟩)), (6, V), (7, iV (Ac.length : Int)), (8, iV (i1 : Int))] [false, true] rfl (subR rfl)
   refine Tn (Fs (Fs (Fg (lv S (rn_fld fa_39_1 (S.tm rfl)) rfl ?_))));clear S;intro a S
   refine lv S (rn_load Tryz.isAgg3 (S.tm rfl) (S.cell (i := 0) rfl rfl)) rfl ?_;clear S;intro a S
   refine lv S (rn_eql (S.tm rfl) rfl) rfl ?_;clear S;intro a S
   refine Ld (Tn ?_)
   obtain ⟨j2, hj2, h⟩ := joinE h
   refine f_join (fun a w' => ∃ x2 : ByteArray, j2 x2 = some r ∧ Sx w [] φ3 [] [(3, sV x2), (6, V), (7, iV (Ac.length : Int)), (8, iV (i1 : Int))] 58 a w') ?_ ?_
   ·refine f_cond (S.tm rfl) (fun hb1 => ?_) (fun hb1 => ?_)
    ·replace h := iteT h hb1
     obtain ⟨j3, hj3, h⟩ := joinE h
     refine f_join (fun a w' => ∃ x3 : ByteArray, j3 x3 = some r ∧ Sx w [] φ3 [] [(3, sV x3), (6, V), (7, iV (Ac.length : Int)), (8, iV (i1 : Int))] 58 a w') ?_ ?_
     ·obtain ⟨hc7, h⟩ := chkE h
      obtain ⟨hc8, h⟩ := chkE h
      obtain ⟨hc9, h⟩ := chkE h
      obtain ⟨hc10, h⟩ := chkE h
      obtain ⟨hc11, h⟩ := chkE h
      obtain ⟨hc12, h⟩ := chkE h
      obtain ⟨r2, hr4, h⟩ := bindE h
      refine d_region [] ([]) Tryz.mixed S rfl (by kernel_rfl) ?_;clear S;intro w17 hk13 hsel S
      refine d_quiet 0 S hsel rfl rfl rfl (by kernel_rfl) (by kernel_rfl) rfl (fun _ hw => (Rm (S.tm rfl))) ?_;clear S;intro a S
      refine d_quiet 1 S hsel rfl rfl rfl (by kernel_rfl) (by kernel_rfl) rfl (fun _ hw => (rn_fld fa_39_3 (S.tm rfl))) ?_;clear S;intro a S
      refine d_quiet 2 S hsel rfl rfl rfl (by kernel_rfl) (by kernel_rfl) rfl (fun _ hw => (rn_ld Tryz.isAgg9 (off := 0) (o := 3) (S.tm rfl) ((S.blk_mem (i := 0) (cells := (GStep.enc y1)) (b := b2) (T := 39) rfl (ne_nil (e' := .blk b2 (GStep.enc y1) 39))).kept hw) rfl)) ?_;clear S;intro a S
      refine d_quiet 3 S hsel rfl rfl rfl (by kernel_rfl) (by kernel_rfl) rfl (fun _ hw => (rn_sadd (m := k__20) (n := y1.Who) rfl (S.tm rfl) (by have := room_lt hc7;omega))) ?_;clear S;intro a S
      refine d_quiet 4 S hsel rfl rfl rfl (by kernel_rfl) (by kernel_rfl) rfl (fun _ hw => (rn_sadd (m := (k__20 ++ y1.Who)) (n := k__20) (S.tm rfl) rfl (by have := room_lt hc8;omega))) ?_;clear S;intro a S
      refine d_quiet 5 S hsel rfl rfl rfl (by kernel_rfl) (by kernel_rfl) rfl (fun _ hw => (rn_fld fa_39_4 (S.tm rfl))) ?_;clear S;intro a S
      refine d_quiet 6 S hsel rfl rfl rfl (by kernel_rfl) (by kernel_rfl) rfl (fun _ hw => (rn_ld Tryz.isAgg9 (off := 0) (o := 4) (S.tm rfl) ((S.blk_mem (i := 0) (cells := (GStep.enc y1)) (b := b2) (T := 39) rfl (ne_nil (e' := .blk b2 (GStep.enc y1) 39))).kept hw) rfl)) ?_;clear S;intro a S
      refine d_quiet 10 S hsel rfl rfl rfl (by kernel_rfl) (by kernel_rfl) rfl (fun _ hw => (rn_fld fa_39_5 (S.tm rfl))) ?_;clear S;intro a S
      refine d_quiet 11 S hsel rfl rfl rfl (by kernel_rfl) (by kernel_rfl) rfl (fun _ hw => (rn_ld Tryz.isAgg9 (off := 0) (o := 5) (S.tm rfl) ((S.blk_mem (i := 0) (cells := (GStep.enc y1)) (b := b2) (T := 39) rfl (ne_nil (e' := .blk b2 (GStep.enc y1) 39))).kept hw) rfl)) ?_;clear S;intro a S
      refine d_quiet 14 S hsel rfl rfl rfl (by kernel_rfl) (by kernel_rfl) rfl (fun _ hw => (rn_fld fa_39_6 (S.tm rfl))) ?_;clear S;intro a S
      refine d_quiet 15 S hsel rfl rfl rfl (by kernel_rfl) (by kernel_rfl) rfl (fun _ hw => (rn_ld Tryz.isAgg3 (off := 0) (o := 6) (S.tm rfl) ((S.blk_mem (i := 0) (cells := (GStep.enc y1)) (b := b2) (T := 39) rfl (ne_nil (e' := .blk b2 (GStep.enc y1) 39))).kept hw) rfl)) ?_;clear S;intro a S
      refine d_quiet 16 S hsel rfl rfl rfl (by kernel_rfl) (by kernel_rfl) rfl (fun _ hw => (rn_fld fa_39_7 (S.tm rfl))) ?_;clear S;intro a S
      refine d_quiet 17 S hsel rfl rfl rfl (by kernel_rfl) (by kernel_rfl) rfl (fun _ hw => (rn_ld Tryz.isAgg3 (off := 0) (o := 7) (S.tm rfl) ((S.blk_mem (i := 0) (cells := (GStep.enc y1)) (b := b2) (T := 39) rfl (ne_nil (e' := .blk b2 (GStep.enc y1) 39))).kept hw) rfl)) ?_;clear S;intro a S
      refine d_loud2 7 18 (by kernel_rfl) rfl rfl ?_ ?_
      ·refine l_enter S (fun _ => run_call (vs := [sV y1.Club]) ⟨(S.tm rfl), trivial⟩ Tryz.call37) (tumbref2_dash_ok _ y1.Club _ rfl) rfl ?_;clear S;intro v7 a w18 hv7 hk14 hn7 S
       subst hv7
       refine Ld (d_next hk14 ?_)
       refine d_quiet 8 S hsel rfl rfl rfl (by kernel_rfl) (by kernel_rfl) rfl (fun _ hw => (rn_sadd (m := ((k__20 ++ y1.Who) ++ k__20)) (n := (tumbref2_dash y1.Club)) (S.tm rfl) (S.tm rfl) (by have := room_lt hc9;omega))) ?_;clear S;intro a S
       refine d_quiet 9 S hsel rfl rfl rfl (by kernel_rfl) (by kernel_rfl) rfl (fun _ hw => (rn_sadd (m := (((k__20 ++ y1.Who) ++ k__20) ++ (tumbref2_dash y1.Club))) (n := k__20) (S.tm rfl) rfl (by have := room_lt hc10;omega))) ?_;clear S;intro a S
       refine d_quiet 12 S hsel rfl rfl rfl (by kernel_rfl) (by kernel_rfl) rfl (fun _ hw => (rn_sadd (m := ((((k__20 ++ y1.Who) ++ k__20) ++ (tumbref2_dash y1.Club)) ++ k__20)) (n := y1.Race) (S.tm rfl) (S.tm rfl) (by have := room_lt hc11;omega))) ?_;clear S;intro a S
       refine d_quiet 13 S hsel rfl rfl rfl (by kernel_rfl) (by kernel_rfl) rfl (fun _ hw => (rn_sadd (m := (((((k__20 ++ y1.Who) ++ k__20) ++ (tumbref2_dash y1.Club)) ++ k__20) ++ y1.Race)) (n := k__20) (S.tm rfl) rfl (by have := room_lt hc12;omega))) ?_;clear S;intro a S
       refine d_loud1 18 (by kernel_rfl) rfl (l_buildSlice S Tryz.underlying22 Tryz.sizeOf3 Tryz.zeroValue3 rfl rfl (pv := [(0, iV y1.Age), (1, iV y1.Time)]) ⟨rfl, (S.tm rfl), rfl, (S.tm rfl), trivial⟩ (cs := [iV y1.Age, iV y1.Time]) (by kernel_rfl) rfl ?_);clear S;intro a w19 b7 hz7 hk15 S
       refine Ld (d_next hk15 (d_loud1 19 (by kernel_rfl) rfl (l_enter S (fun _ => run_call (vs := [.slice (some ⟨b7, 0, none⟩) 2 2]) ⟨(S.tm rfl), trivial⟩ Tryz.call35) (tumbref2_numbers_ok _ (.slice (some ⟨b7, 0, none⟩) 2 2) [y1.Age, y1.Time] (lit_slcT enc_int S (i := 0) rfl rfl rfl rfl ((ne_nil (e' := .blk b7 [iV y1.Age, iV y1.Time] 3)) _ rfl)) (hg_pow10.mono (S.le_arg nil_sub)) _ hr4) rfl ?_)));clear S;intro v8 a w20 hv8 hk16 hn8 S
       subst hv8
       refine Ld (d_next hk16 (d_rest [20, 21, 22] hsel (by kernel_rfl) rfl ?_))
       clear hsel
       obtain ⟨hc13, h⟩ := chkE h
       refine s_lv S rfl (rn_sadd (m := ((((((k__20 ++ y1.Who) ++ k__20) ++ (tumbref2_dash y1.Club)) ++ k__20) ++ y1.Race) ++ k__20)) (n := r2) (S.tm rfl) (S.tm rfl) (by have := room_lt hc13;omega)) rfl ?_;clear S;intro a S
       obtain ⟨hc14, h⟩ := chkE h
       refine s_lv S rfl (rn_sadd (m := (x1 ++ ((((r1 ++ k__20) ++ (nth tumbref2_stepWords y1.Kind)) ++ k__20) ++ y1.Id))) (n := (((((((k__20 ++ y1.Who) ++ k__20) ++ (tumbref2_dash y1.Club)) ++ k__20) ++ y1.Race) ++ k__20) ++ r2)) (S.tm rfl) (S.tm rfl) (by have := room_lt hc14;omega)) rfl ?_;clear S;intro a S
       refine s_lv S rfl (Ra (S.tm rfl)) rfl ?_;clear S;intro a S
       refine s_done ?_
       replace S := S.nk [] [(3, sV ((x1 ++ ((((r1 ++ k__20) ++ (nth tumbref2_stepWords y1.Kind)) ++ k__20) ++ y1.Id)) ++ (((((((k__20 ++ y1.Who) ++ k__20) ++ (tumbref2_dash y1.Club)) ++ k__20) ++ y1.Race) ++ k__20) ++ r2))), (6, V), (7, iV (Ac.length : Int)), (8, iV (i1 : Int))] [false, false] rfl (subR rfl)
       refine Tn ?_
       exact ⟨(x1 ++ ((((r1 ++ k__20) ++ (nth tumbref2_stepWords y1.Kind)) ++ k__20) ++ y1.Id)) ++ (((((((k__20 ++ y1.Who) ++ k__20) ++ (tumbref2_dash y1.Club)) ++ k__20) ++ y1.Race) ++ k__20) ++ r2), h, S.nf [] rfl (subR rfl)⟩
      ·refine l_buildSlice S Tryz.underlying22 Tryz.sizeOf3 Tryz.zeroValue3 rfl rfl (pv := [(0, iV y1.Age), (1, iV y1.Time)]) ⟨rfl, (S.tm rfl), rfl, (S.tm rfl), trivial⟩ (cs := [iV y1.Age, iV y1.Time]) (by kernel_rfl) rfl ?_;clear S;intro a w21 b8 hz8 hk17 S
       refine Ld (d_next hk17 (d_loud1 7 (by kernel_rfl) rfl (l_enter S (fun _ => run_call (vs := [sV y1.Club]) ⟨(S.tm rfl), trivial⟩ Tryz.call37) (tumbref2_dash_ok _ y1.Club _ rfl) rfl ?_)));clear S;intro v9 a w22 hv9 hk18 hn9 S
       subst hv9
       refine Ld (d_next hk18 ?_)
       refine d_quiet 8 S hsel rfl rfl rfl (by kernel_rfl) (by kernel_rfl) rfl (fun _ hw => (rn_sadd (m := ((k__20 ++ y1.Who) ++ k__20)) (n := (tumbref2_dash y1.Club)) (S.tm rfl) (S.tm rfl) (by have := room_lt hc9;omega))) ?_;clear S;intro a S
       refine d_quiet 9 S hsel rfl rfl rfl (by kernel_rfl) (by kernel_rfl) rfl (fun _ hw => (rn_sadd (m := (((k__20 ++ y1.Who) ++ k__20) ++ (tumbref2_dash y1.Club))) (n := k__20) (S.tm rfl) rfl (by have := room_lt hc10;omega))) ?_;clear S;intro a S
       refine d_quiet 12 S hsel rfl rfl rfl (by kernel_rfl) (by kernel_rfl) rfl (fun _ hw => (rn_sadd (m := ((((k__20 ++ y1.Who) ++ k__20) ++ (tumbref2_dash y1.Club)) ++ k__20)) (n := y1.Race) (S.tm rfl) (S.tm rfl) (by have := room_lt hc11;omega))) ?_;clear S;intro a S
       refine d_quiet 13 S hsel rfl rfl rfl (by kernel_rfl) (by kernel_rfl) rfl (fun _ hw => (rn_sadd (m := (((((k__20 ++ y1.Who) ++ k__20) ++ (tumbref2_dash y1.Club)) ++ k__20) ++ y1.Race)) (n := k__20) (S.tm rfl) rfl (by have := room_lt hc12;omega))) ?_;clear S;intro a S
       refine d_loud1 19 (by kernel_rfl) rfl (l_enter S (fun _ => run_call (vs := [.slice (some ⟨b8, 0, none⟩) 2 2]) ⟨(S.tm rfl), trivial⟩ Tryz.call35) (tumbref2_numbers_ok _ (.slice (some ⟨b8, 0, none⟩) 2 2) [y1.Age, y1.Time] (lit_slcT enc_int S (i := 0) rfl rfl rfl rfl ((ne_nil (e' := .blk b8 [iV y1.Age, iV y1.Time] 3)) _ rfl)) (hg_pow10.mono (S.le_arg nil_sub)) _ hr4) rfl ?_);clear S;intro v10 a w23 hv10 hk19 hn10 S
       subst hv10
       refine Ld (d_next hk19 (d_rest [20, 21, 22] hsel (by kernel_rfl) rfl ?_))
       clear hsel
       obtain ⟨hc15, h⟩ := chkE h
       refine s_lv S rfl (rn_sadd (m := ((((((k__20 ++ y1.Who) ++ k__20) ++ (tumbref2_dash y1.Club)) ++ k__20) ++ y1.Race) ++ k__20)) (n := r2) (S.tm rfl) (S.tm rfl) (by have := room_lt hc15;omega)) rfl ?_;clear S;intro a S
       obtain ⟨hc16, h⟩ := chkE h
       refine s_lv S rfl (rn_sadd (m := (x1 ++ ((((r1 ++ k__20) ++ (nth tumbref2_stepWords y1.Kind)) ++ k__20) ++ y1.Id))) (n := (((((((k__20 ++ y1.Who) ++ k__20) ++ (tumbref2_dash y1.Club)) ++ k__20) ++ y1.Race) ++ k__20) ++ r2)) (S.tm rfl) (S.tm rfl) (by have := room_lt hc16;omega)) rfl ?_;clear S;intro a S
       refine s_lv S rfl (Ra (S.tm rfl)) rfl ?_;clear S;intro a S
       refine s_done ?_
       replace S := S.nk [] [(3, sV ((x1 ++ ((((r1 ++ k__20) ++ (nth tumbref2_stepWords y1.Kind)) ++ k__20) ++ y1.Id)) ++ (((((((k__20 ++ y1.Who) ++ k__20) ++ (tumbref2_dash y1.Club)) ++ k__20) ++ y1.Race) ++ k__20) ++ r2))), (6, V), (7, iV (Ac.length : Int)), (8, iV (i1 : Int))] [false, false] rfl (subR rfl)
       refine Tn ?_
       exact ⟨(x1 ++ ((((r1 ++ k__20) ++ (nth tumbref2_stepWords y1.Kind)) ++ k__20) ++ y1.Id)) ++ (((((((k__20 ++ y1.Who) ++ k__20) ++ (tumbref2_dash y1.Club)) ++ k__20) ++ y1.Race) ++ k__20) ++ r2), h, S.nf [] rfl (subR rfl)⟩
     clear S h;rintro a w13 ⟨x3, h, S⟩;rw [hj3] at h;clear hj3 j3
     refine Tn ?_
     exact ⟨x3, h, S.nf [] rfl (subR rfl)⟩
    ·replace h := iteF h hb1
     refine wp_skip (Tn ?_)
     exact ⟨x1 ++ ((((r1 ++ k__20) ++ (nth tumbref2_stepWords y1.Kind)) ++ k__20) ++ y1.Id), h, S.nf [false] rfl (subR rfl)⟩
   clear S h;rintro a w12 ⟨x2, h, S⟩;rw [hj2] at h;clear hj2 j2
   refine Tn (Fg (lv S (Rm (S.tm rfl)) rfl ?_));clear S;intro a S
   obtain ⟨hc17, h⟩ := chkE h
   refine lv S (rn_sadd (m := x2) (n := k__0a) (S.tm rfl) rfl (by have := room_lt hc17;omega)) rfl ?_;clear S;intro a S
   refine lv S (Ra (S.tm rfl)) rfl ?_;clear S;intro a S
   refine Ld (blk_n (Tn (Fg (lv S (rn_add (S.tm rfl) rfl) rfl ?_))));clear S;intro a S
   refine lv S (Rm (S.tm rfl)) rfl ?_;clear S;intro a S
   refine Ld (Tn ?_)
   exact ⟨ys1, ⟨i1 + 1, x2 ++ k__0a, φ3, ⟨_, (hd1).trans (List.append_cons _ _ _), by simp [hi1]⟩, h, (View.le_trans hl1 hl3), S.nf [] rfl ⟨rfl, rfl, rfl, (congrArg (fun z => some (Value.int .i64 z)) (rng_next hd1 hi1 (slc_max Ag))), trivial⟩⟩, Nat.lt_succ_self _⟩
 clear S h;rintro a w2 ⟨x1, φ1, h, hl1, S⟩;rw [hj1] at h;clear hj1 j1
 refine Tn (Fs (Fg (lv S (Rm (S.tm rfl)) rfl ?_)));clear S;intro a S
 refine lv S (Ra (S.tm rfl)) rfl ?_;clear S;intro a S
 refine Ld (Tn (wp_ret ?_))
 obtain rfl := Option.some.inj h
 exact f_ret S Tryz.results9 rfl rfl
set_option maxRecDepth 20000 in
theorem Stream_Changed_ok (w : World) (O : Nat) (U : Value) (Ae : List Int) (Ad : Slc (view w [O]) 1 U (Ae.map eInt)) (Ab : Int) (Aw : (LEnt.blk O [U, iV Ab] 25).holds w) (Bg : ByteArray) (Be : ByteArray) (r : ByteArray × Int) (h : Stream_Changed Ae Ab Bg Be = some r) :
    Calls Tryz.prog 25 [.pointer (some ⟨O, 0, none⟩), sV Bg, sV Be].toArray w (Ret w [O] fun _ v w' => (LEnt.blk O [U, iV r.2] 25).holds w' ∧ v = sV r.1) := by
 refine f_enter [O] [.blk O [U, iV Ab] 25] Tryz.func25 rfl Tryz.ntmps25 rfl (fun e he => by simp only [List.mem_singleton] at he;subst he;exact Aw) (by simp [fps, LEnt.fp]) (by simp [fps, LEnt.fp]) fun a S => ?_
 unfold Stream_Changed at h
 replace S := S.nk [.blk O [U, iV Ab] 25] [(0, .pointer (some ⟨O, 0, none⟩)), (1, sV Bg), (2, sV Be)] [true] rfl (subR rfl)
 refine Fs (Fg (lv S (Ra rfl) rfl ?_));clear S;intro a S
 refine Ld (Tn (Fs (Fs (Fg (lv S (Rm (S.tm rfl)) rfl ?_)))));clear S;intro a S
 refine lv S (rn_seql (S.tm rfl) rfl) rfl ?_;clear S;intro a S
 refine lv S (Rm (S.tm rfl)) rfl ?_;clear S;intro a S
 refine f_cutm 3 (fun a w' => Keep [] w w' ∧ Sx w [O] nov [.blk O [U, iV Ab] 25] [(0, .pointer (some ⟨O, 0, none⟩)), (1, sV Bg), (2, sV Be), (14, bV ((decide (Bg = k_empty)) || (decide (Be = k_empty))))] 63 a w') ?_ ?_
 ·rcases Bool.eq_false_or_eq_true (decide (Bg = k_empty)) with hb1 | hb1
  ·refine l_skip S rfl rfl rfl (neq_t hb1) rfl ?_ rfl;clear S;intro a S
   refine l_skip S rfl rfl rfl (neq_t hb1) rfl ?_ rfl;clear S;intro a S
   refine lv S (rn_or_t (decide (Be = k_empty)) hb1 (S.tm rfl) rfl) rfl ?_;clear S;intro a S
   refine Ld (Tn ?_)
   exact ⟨Keep.refl _ _, S.nf [true] rfl (subR rfl)⟩
  ·refine l_want S rfl rfl rfl hb1 (lv S (Rm (S.tm rfl)) rfl ?_);clear S;intro a S
   refine l_want S rfl rfl rfl hb1 (lv S (rn_seql (S.tm rfl) rfl) rfl ?_);clear S;intro a S
   refine lv S (rn_or_f hb1 (S.tm rfl) (S.tm rfl)) rfl ?_;clear S;intro a S
   refine Ld (Tn ?_)
   exact ⟨Keep.refl _ _, S.nf [true] rfl (subR rfl)⟩
 clear S;rintro a w1 ⟨hk1, S⟩
 refine Ld (Tn (f_cond (S.tm rfl) (fun hb2 => ?_) (fun hb2 => ?_)))
 ·replace h := iteT h hb2
  refine Fs (Fg (lv S (Rm (S.tm rfl)) rfl ?_));clear S;intro a S
  refine lv S (Ra (S.tm rfl)) rfl ?_;clear S;intro a S
  refine Ld (Tn (wp_ret (then_r ?_)))
  obtain rfl := Option.some.inj h
  exact f_ret S Tryz.results25 rfl ⟨(S.holds _ (List.mem_of_getElem? (i := 0) rfl)), rfl⟩
 ·replace h := iteF h hb2
  refine wp_skip (Tn (Fs (Fg (lv S (Rm (S.tm rfl)) rfl ?_))));clear S;intro a S
  refine lv S (Rm (S.tm rfl)) rfl ?_;clear S;intro a S
  refine lv S (rn_len_str Tryz.underlying9 (S.tm rfl)) rfl ?_;clear S;intro a S
  obtain ⟨r1, hr1, h⟩ := bindE h
  refine l_enter1 0 S (b := O) rfl rfl (fun _ => .blk O [U, iV r1.2] 25) (fun _ => run_call (vs := [.pointer (some ⟨O, 0, none⟩), iV (Bg.size : Int)]) ⟨(S.tm rfl), (S.tm rfl), trivial⟩ Tryz.call17) (Stream_Next_ok _ O U Ae (Ad.mono (S.le_arg (fp_sub (i := 0) (e := .blk O [U, iV Ab] 25) rfl))) Ab (S.holds _ (List.mem_of_getElem? (i := 0) rfl)) (Bg.size : Int) _ hr1) rfl (fun _ _ _ h => ⟨h.1, fun _ hc => by cases hc;rfl⟩) ?_;clear S;intro v1 a w2 hv1 hk2 hn1 S
  replace hv1 := hv1.2
  subst hv1
  refine lv S (Ra (S.tm rfl)) rfl ?_;clear S;intro a S
  refine Ld (Tn (Fs (Fg (lv S (Rm (S.tm rfl)) rfl ?_))));clear S;intro a S
  refine lv S (Rm (S.tm rfl)) rfl ?_;clear S;intro a S
  refine lv S (Rm (S.tm rfl)) rfl ?_;clear S;intro a S
  refine lv S (rn_len_str Tryz.underlying9 (S.tm rfl)) rfl ?_;clear S;intro a S
  obtain ⟨r2, hr2, h⟩ := bindE h
  refine l_enter1 0 S (b := O) rfl rfl (fun _ => .blk O [U, iV r2.2] 25) (fun _ => run_call (vs := [.pointer (some ⟨O, 0, none⟩), iV (Be.size : Int)]) ⟨(S.tm rfl), (S.tm rfl), trivial⟩ Tryz.call17) (Stream_Next_ok _ O U Ae (Ad.mono (S.le_arg (fp_sub (i := 0) (e := .blk O [U, iV r1.2] 25) rfl))) r1.2 (S.holds _ (List.mem_of_getElem? (i := 0) rfl)) (Be.size : Int) _ hr2) rfl (fun _ _ _ h => ⟨h.1, fun _ hc => by cases hc;rfl⟩) ?_;clear S;intro v2 a w3 hv2 hk3 hn2 S
  replace hv2 := hv2.2
  subst hv2
  obtain ⟨hc1, h⟩ := chkE h
  refine lv S (rn_sindexT Tryz.underlying9 (S.tm rfl) (S.tm rfl) hc1) rfl ?_;clear S;intro a S
  refine lv S (Ra (S.tm rfl)) rfl ?_;clear S;intro a S
  refine Ld ?_
  replace S := S.nk [.blk O [U, iV r2.2] 25] [(0, .pointer (some ⟨O, 0, none⟩)), (1, sV Bg), (7, iV r1.1), (8, .int .u8 (sbyte Be r2.1))] [true] rfl (subR rfl)
  refine Tn (Fs (Fs (Fg (lv S (Rm (S.tm rfl)) rfl ?_))));clear S;intro a S
  obtain ⟨r3, hr3, h⟩ := bindE h
  refine l_enter1 0 S (b := O) rfl rfl (fun _ => .blk O [U, iV r3.2] 25) (fun _ => run_call (vs := [.pointer (some ⟨O, 0, none⟩), iV 3]) ⟨(S.tm rfl), rfl, trivial⟩ Tryz.call17) (Stream_Next_ok _ O U Ae (Ad.mono (S.le_arg (fp_sub (i := 0) (e := .blk O [U, iV r2.2] 25) rfl))) r2.2 (S.holds _ (List.mem_of_getElem? (i := 0) rfl)) 3 _ hr3) rfl (fun _ _ _ h => ⟨h.1, fun _ hc => by cases hc;rfl⟩) ?_;clear S;intro v3 a w4 hv3 hk4 hn3 S
  replace hv3 := hv3.2
  subst hv3
  refine Ld (Tn (wp_block (Fs (Fg (lv S (rn_eql (S.tm rfl) rfl) rfl ?_)))));clear S;intro a S
  refine lv S (Ra (S.tm rfl)) rfl ?_;clear S;intro a S
  refine Ld (Tn (f_cond (S.tm rfl) (fun hb3 => ?_) (fun hb3 => ?_)))
  ·replace h := iteT h hb3
   refine Fs (d_region [] ([]) Tryz.mixed S rfl (by kernel_rfl) ?_);clear S;intro w5 hk5 hsel S
   refine d_rest [0, 1, 2, 3, 4, 5, 6, 7, 8, 9, 10, 11, 12] hsel (by kernel_rfl) rfl ?_
   clear hsel
   refine s_lv S rfl (Rm (S.tm rfl)) rfl ?_;clear S;intro a S
   refine s_lv S rfl (Rm (S.tm rfl)) rfl ?_;clear S;intro a S
   obtain ⟨hc2, h⟩ := chkE h
   refine s_lv S rfl (rn_scutTh Tryz.underlying9 (S.tm rfl) (S.tm rfl) hc2) rfl ?_;clear S;intro a S
   refine s_lv S rfl (Rm (S.tm rfl)) rfl ?_;clear S;intro a S
   refine s_lv S rfl (rn_conv Tryz.underlying5 Tryz.underlying21 (S.tm rfl)) rfl ?_;clear S;intro a S
   refine s_lv S rfl (rn_runestr Tryz.underlying21 Tryz.underlying9 (S.tm rfl)) rfl ?_;clear S;intro a S
   obtain ⟨hc3, h⟩ := chkE h
   refine s_lv S rfl (rn_sadd (m := (scut Bg 0 r1.1)) (n := (Utf8.encode (IntKind.wrap .i32 (sbyte Be r2.1)))) (S.tm rfl) (S.tm rfl) (by have := room_lt hc3;omega)) rfl ?_;clear S;intro a S
   refine s_lv S rfl (Rm (S.tm rfl)) rfl ?_;clear S;intro a S
   refine s_lv S rfl (Rm (S.tm rfl)) rfl ?_;clear S;intro a S
   refine s_lv S rfl (rn_add (S.tm rfl) rfl) rfl ?_;clear S;intro a S
   obtain ⟨hc4, h⟩ := chkE h
   refine s_lv S rfl (rn_scutTl Tryz.underlying9 (S.tm rfl) (S.tm rfl) hc4) rfl ?_;clear S;intro a S
   obtain ⟨hc5, h⟩ := chkE h
   refine s_lv S rfl (rn_sadd (m := ((scut Bg 0 r1.1) ++ (Utf8.encode (IntKind.wrap .i32 (sbyte Be r2.1))))) (n := (scut Bg (W (r1.1 + 1)) Bg.size)) (S.tm rfl) (S.tm rfl) (by have := room_lt hc5;omega)) rfl ?_;clear S;intro a S
   refine s_lv S rfl (Ra (S.tm rfl)) rfl ?_;clear S;intro a S
   refine s_done ?_
   replace S := S.nk [.blk O [U, iV r3.2] 25] [(6, sV (((scut Bg 0 r1.1) ++ (Utf8.encode (IntKind.wrap .i32 (sbyte Be r2.1)))) ++ (scut Bg (W (r1.1 + 1)) Bg.size)))] [true] rfl ⟨rfl, trivial⟩
   refine Tn (wp_ret (blk_r (then_r ?_)))
   obtain rfl := Option.some.inj h
   exact f_ret S Tryz.results25 rfl ⟨(S.holds _ (List.mem_of_getElem? (i := 0) rfl)), rfl⟩
  ·replace h := iteF h hb3
   refine Fs (Fg (lv S (rn_eql (S.tm rfl) rfl) rfl ?_));clear S;intro a S
   refine lv S (Ra (S.tm rfl)) rfl ?_;clear S;intro a S
   refine Ld (Tn (f_cond (S.tm rfl) (fun hb4 => ?_) (fun hb4 => ?_)))
   ·replace h := iteT h hb4
    refine Fs (d_region [] ([]) Tryz.mixed S rfl (by kernel_rfl) ?_);clear S;intro w6 hk6 hsel S
    refine d_rest [0, 1, 2, 3, 4, 5, 6, 7, 8, 9, 10, 11] hsel (by kernel_rfl) rfl ?_
    clear hsel
    refine s_lv S rfl (Rm (S.tm rfl)) rfl ?_;clear S;intro a S
    refine s_lv S rfl (Rm (S.tm rfl)) rfl ?_;clear S;intro a S
    obtain ⟨hc6, h⟩ := chkE h
    refine s_lv S rfl (rn_scutTh Tryz.underlying9 (S.tm rfl) (S.tm rfl) hc6) rfl ?_;clear S;intro a S
    refine s_lv S rfl (Rm (S.tm rfl)) rfl ?_;clear S;intro a S
    refine s_lv S rfl (rn_conv Tryz.underlying5 Tryz.underlying21 (S.tm rfl)) rfl ?_;clear S;intro a S
    refine s_lv S rfl (rn_runestr Tryz.underlying21 Tryz.underlying9 (S.tm rfl)) rfl ?_;clear S;intro a S
    obtain ⟨hc7, h⟩ := chkE h
    refine s_lv S rfl (rn_sadd (m := (scut Bg 0 r1.1)) (n := (Utf8.encode (IntKind.wrap .i32 (sbyte Be r2.1)))) (S.tm rfl) (S.tm rfl) (by have := room_lt hc7;omega)) rfl ?_;clear S;intro a S
    refine s_lv S rfl (Rm (S.tm rfl)) rfl ?_;clear S;intro a S
    refine s_lv S rfl (Rm (S.tm rfl)) rfl ?_;clear S;intro a S
    obtain ⟨hc8, h⟩ := chkE h
    refine s_lv S rfl (rn_scutTl Tryz.underlying9 (S.tm rfl) (S.tm rfl) hc8) rfl ?_;clear S;intro a S
    obtain ⟨hc9, h⟩ := chkE h
    refine s_lv S rfl (rn_sadd (m := ((scut Bg 0 r1.1) ++ (Utf8.encode (IntKind.wrap .i32 (sbyte Be r2.1))))) (n := (scut Bg r1.1 Bg.size)) (S.tm rfl) (S.tm rfl) (by have := room_lt hc9;omega)) rfl ?_;clear S;intro a S
    refine s_lv S rfl (Ra (S.tm rfl)) rfl ?_;clear S;intro a S
    refine s_done ?_
    replace S := S.nk [.blk O [U, iV r3.2] 25] [(6, sV (((scut Bg 0 r1.1) ++ (Utf8.encode (IntKind.wrap .i32 (sbyte Be r2.1)))) ++ (scut Bg r1.1 Bg.size)))] [true] rfl ⟨rfl, trivial⟩
    refine Tn (wp_ret (blk_r (then_r ?_)))
    obtain rfl := Option.some.inj h
    exact f_ret S Tryz.results25 rfl ⟨(S.holds _ (List.mem_of_getElem? (i := 0) rfl)), rfl⟩
   ·replace h := iteF h hb4
    refine wp_skip (blk_n (Tn (Fs (d_region [] ([]) Tryz.mixed S rfl (by kernel_rfl) ?_))));clear S;intro w7 hk7 hsel S
    refine d_rest [0, 1, 2, 3, 4, 5, 6, 7, 8] hsel (by kernel_rfl) rfl ?_
    clear hsel
    refine s_lv S rfl (Rm (S.tm rfl)) rfl ?_;clear S;intro a S
    refine s_lv S rfl (Rm (S.tm rfl)) rfl ?_;clear S;intro a S
    obtain ⟨hc10, h⟩ := chkE h
    refine s_lv S rfl (rn_scutTh Tryz.underlying9 (S.tm rfl) (S.tm rfl) hc10) rfl ?_;clear S;intro a S
    refine s_lv S rfl (Rm (S.tm rfl)) rfl ?_;clear S;intro a S
    refine s_lv S rfl (Rm (S.tm rfl)) rfl ?_;clear S;intro a S
    refine s_lv S rfl (rn_add (S.tm rfl) rfl) rfl ?_;clear S;intro a S
    obtain ⟨hc11, h⟩ := chkE h
    refine s_lv S rfl (rn_scutTl Tryz.underlying9 (S.tm rfl) (S.tm rfl) hc11) rfl ?_;clear S;intro a S
    obtain ⟨hc12, h⟩ := chkE h
    refine s_lv S rfl (rn_sadd (m := (scut Bg 0 r1.1)) (n := (scut Bg (W (r1.1 + 1)) Bg.size)) (S.tm rfl) (S.tm rfl) (by have := room_lt hc12;omega)) rfl ?_;clear S;intro a S
    refine s_lv S rfl (Ra (S.tm rfl)) rfl ?_;clear S;intro a S
    refine s_done ?_
    replace S := S.nk [.blk O [U, iV r3.2] 25] [(6, sV ((scut Bg 0 r1.1) ++ (scut Bg (W (r1.1 + 1)) Bg.size)))] [true] rfl ⟨rfl, trivial⟩
    refine Tn (wp_ret ?_)
    obtain rfl := Option.some.inj h
    exact f_ret S Tryz.results25 rfl ⟨(S.holds _ (List.mem_of_getElem? (i := 0) rfl)), rfl⟩
theorem Stream_StepText_ok (w : World) (O : Nat) (U : Value) (Ae : List Int) (Ad : Slc (view w [O]) 1 U (Ae.map eInt)) (Ab : Int) (Aw : (LEnt.blk O [U, iV Ab] 25).holds w) (hg_pow10 : Glob (view w [O]) 1 pow10Cells) (r : ByteArray × Int) (h : Stream_StepText Ae Ab = some r) :
    Calls Tryz.prog 6 [.pointer (some ⟨O, 0, none⟩)].toArray w (Ret w [O] fun _ v w' => (LEnt.blk O [U, iV r.2] 25).holds w' ∧ v = sV r.1) := by
 refine f_enter [O] [.blk O [U, iV Ab] 25] Tryz.func6 rfl Tryz.ntmps6 rfl (fun e he => by simp only [List.mem_singleton] at he;subst he;exact Aw) (by simp [fps, LEnt.fp]) (by simp [fps, LEnt.fp]) fun a S => ?_
 unfold Stream_StepText at h
 replace S := S.nk [.blk O [U, iV Ab] 25] [(0, .pointer (some ⟨O, 0, none⟩))] [true] rfl ⟨rfl, trivial⟩
 refine Fs (Fg (lv S (Ra rfl) rfl ?_));clear S;intro a S
 refine Ld (Tn (Fs (Fg (lv S (Rm (S.tm rfl)) rfl ?_))));clear S;intro a S
 refine lv S (Rm (S.tm rfl)) rfl ?_;clear S;intro a S
 obtain ⟨r1, hr1, h⟩ := bindE h
 refine l_enter1 0 S (b := O) rfl rfl (fun _ => .blk O [U, iV r1.2] 25) (fun _ => run_call (vs := [.pointer (some ⟨O, 0, none⟩), iV 0, iV 4]) ⟨(S.tm rfl), rfl, rfl, trivial⟩ Tryz.call5) (Stream_Range_ok _ O U Ae (Ad.mono (S.le_arg (fp_sub (i := 0) (e := .blk O [U, iV Ab] 25) rfl))) Ab (S.holds _ (List.mem_of_getElem? (i := 0) rfl)) 0 4 _ hr1) rfl (fun _ _ _ h => ⟨h.1, fun _ hc => by cases hc;rfl⟩) ?_;clear S;intro v1 a w1 hv1 hk1 hn1 S
 replace hv1 := hv1.2
 subst hv1
 obtain ⟨r2, hr2, h⟩ := bindE h
 have hz1 := S.keep.size
 refine l_enter1 0 S (b := O) rfl rfl (fun _ => .blk O [U, iV r2.2] 25) (fun _ => run_call (vs := [.pointer (some ⟨O, 0, none⟩), iV r1.1]) ⟨(S.tm rfl), (S.tm rfl), trivial⟩ Tryz.call24) (Stream_RightSteps_ok _ O U Ae (Ad.mono (S.le_arg (fp_sub (i := 0) (e := .blk O [U, iV r1.2] 25) rfl))) r1.2 (S.holds _ (List.mem_of_getElem? (i := 0) rfl)) r1.1 _ hr2) rfl (fun _ _ _ h => ⟨h.1, fun _ hc => by cases hc;rfl⟩) ?_;clear S;intro v2 a w2 hv2 hk2 hn2 S
 replace hv2 := hv2.2
 obtain ⟨φ1, hl1, hm1, S⟩ := S.see' hn2 hz1
 have hs1 := hv2.mono hm1
 obtain ⟨r3, hr3, h⟩ := bindE h
 refine l_enter S (fun _ => run_call (vs := [v2]) ⟨(S.tm rfl), trivial⟩ Tryz.call9) (tumbref2_StepLines_ok _ v2 r2.1 ((ownV_slcT GStep.enc_ok hs1).mono (S.le_new nil_sub)) (hg_pow10.mono (S.le_arg nil_sub)) _ hr3) rfl ?_;clear S;intro v3 a w3 hv3 hk3 hn3 S
 subst hv3
 refine lv S (Ra (S.tm rfl)) rfl ?_;clear S;intro a S
 refine Ld (Tn (Fs (Fs (Fg (lv S (Rm (S.tm rfl)) rfl ?_)))));clear S;intro a S
 refine l_buildSlice S Tryz.underlying22 Tryz.sizeOf3 Tryz.zeroValue3 rfl rfl (pv := [(0, iV 0), (1, iV 0), (2, iV 1), (3, iV 2)]) ⟨rfl, rfl, rfl, rfl, rfl, rfl, rfl, rfl, trivial⟩ (cs := [iV 0, iV 0, iV 1, iV 2]) (by kernel_rfl) rfl ?_;clear S;intro a w4 b1 hz2 hk4 S
 obtain ⟨r4, hr4, h⟩ := bindE h
 refine l_enter1 1 S (b := O) rfl rfl (fun _ => .blk O [U, iV r4.2] 25) (fun _ => run_call (vs := [.pointer (some ⟨O, 0, none⟩), .slice (some ⟨b1, 0, none⟩) 4 4]) ⟨(S.tm rfl), (S.tm rfl), trivial⟩ Tryz.call14) (Stream_Pick_ok _ O U Ae (Ad.mono (S.le_arg (fp_sub (i := 1) (e := .blk O [U, iV r2.2] 25) rfl))) r2.2 (S.holds _ (List.mem_of_getElem? (i := 1) rfl)) (.slice (some ⟨b1, 0, none⟩) 4 4) [0, 0, 1, 2] (lit_slcT enc_int S (i := 0) rfl rfl rfl rfl ((ne_fp (i := 1) (j := 0) (e := .blk O [U, iV r2.2] 25) (e' := .blk b1 [iV 0, iV 0, iV 1, iV 2] 3) S rfl rfl rfl) _ rfl)) _ hr4) rfl (fun _ _ _ h => ⟨h.1, fun _ hc => by cases hc;rfl⟩) ?_;clear S;intro v4 a w5 hv4 hk5 hn4 S
 replace hv4 := hv4.2
 subst hv4
 refine lv S (Rm rfl) rfl ?_;clear S;intro a S
 refine Ld (Tn ?_)
 replace S := S.nk [.blk O [U, iV r4.2] 25] [(0, .pointer (some ⟨O, 0, none⟩)), (3, sV r3), (11, iV r4.1), (12, iV 0)] [false, true] rfl (subR rfl)
 obtain ⟨j1, hj1, h⟩ := joinE h
 refine f_join (fun a w' => ∃ x1 : Int, ∃ x2 : ByteArray, j1 x1 x2 = some r ∧ Sx w [O] φ1 [.blk O [U, iV x1] 25] [(3, sV x2)] 19 a w') ?_ ?_
 ·refine wp_block (f_loop (fun (m1 : Nat) a w' => ∃ x1 : Int, ∃ x2 : ByteArray, ∃ x3 : Int, Stream_StepText_l1 r4 Ae j1 m1 x1 x2 x3 = some r ∧ Sx w [O] φ1 [.blk O [U, iV x1] 25] [(0, .pointer (some ⟨O, 0, none⟩)), (3, sV x2), (11, iV r4.1), (12, iV x3)] 19 a w') id ((r4.1 - 0).toNat + 2) ⟨r4.2, r3, 0, h, S.nf [true] rfl (subR rfl)⟩ ?_)
  clear S h;rintro m1 a w6 ⟨x1, x2, x3, h, S⟩
  cases m1 with
  | zero => rw [Stream_StepText_l1.eq_1] at h;cases h
  | succ m1 =>
   rw [Stream_StepText_l1.eq_2] at h
   refine Fs (Fg (lv S (rn_lss (S.tm rfl) (S.tm rfl)) rfl ?_));clear S;intro a S
   refine Ld (Tn (Fs (f_cond (S.tm rfl) (fun hb1 => ?_) (fun hb1 => ?_))))
   ·replace h := iteT h hb1
    refine wp_skip (Tn (Fs (wp_block (Fg (lv S (Rm (S.tm rfl)) rfl ?_)))));clear S;intro a S
    refine lv S (Rm (S.tm rfl)) rfl ?_;clear S;intro a S
    obtain ⟨r5, hr5, h⟩ := bindE h
    refine l_enter1 0 S (b := O) rfl rfl (fun _ => .blk O [U, iV r5.2] 25) (fun _ => run_call (vs := [.pointer (some ⟨O, 0, none⟩), sV x2, sV k__20_0a0_2d9ivr]) ⟨(S.tm rfl), (S.tm rfl), rfl, trivial⟩ Tryz.call25) (Stream_Changed_ok _ O U Ae (Ad.mono (S.le_arg (fp_sub (i := 0) (e := .blk O [U, iV x1] 25) rfl))) x1 (S.holds _ (List.mem_of_getElem? (i := 0) rfl)) x2 k__20_0a0_2d9ivr _ hr5) rfl (fun _ _ _ h => ⟨h.1, fun _ hc => by cases hc;rfl⟩) ?_;clear S;intro v5 a w8 hv5 hk6 hn5 S
    replace hv5 := hv5.2
    subst hv5
    refine lv S (Ra (S.tm rfl)) rfl ?_;clear S;intro a S
    refine Ld (blk_n (Tn (Fg (lv S (rn_add (S.tm rfl) rfl) rfl ?_))));clear S;intro a S
    refine lv S (Rm (S.tm rfl)) rfl ?_;clear S;intro a S
    refine Ld (Tn ?_)
    exact ⟨m1, ⟨r5.2, r5.1, W (x3 + 1), h, S.nf [true] rfl ⟨rfl, rfl, rfl, rfl, trivial⟩⟩, Nat.lt_succ_self _⟩
   ·replace h := iteF h hb1
    refine wp_exit (then_x (then_x (x_same (Tn ?_))))
    exact ⟨x1, x2, h, S.nf [true] rfl ⟨rfl, trivial⟩⟩
 clear S h;rintro a w7 ⟨x1, x2, h, S⟩;rw [hj1] at h;clear hj1 j1
 refine Tn (Fs (Fg (lv S (Rm (S.tm rfl)) rfl ?_)));clear S;intro a S
 refine lv S (Ra (S.tm rfl)) rfl ?_;clear S;intro a S
 refine Ld (Tn (wp_ret ?_))
 obtain rfl := Option.some.inj h
 exact f_ret S Tryz.results6 rfl ⟨(S.holds _ (List.mem_of_getElem? (i := 0) rfl)), rfl⟩
theorem words_IsMoment_ok (w : World) (Aj : Int) (r : Bool) (h : words_IsMoment Aj = r) :
    Calls Tryz.prog 78 [iV Aj].toArray w (Ret w [] fun _ v _ => v = bV r) := by
 refine f_enter [] [] Tryz.func78 rfl Tryz.ntmps78 rfl (by simp) (by simp [fps]) (by simp [fps]) fun a S => ?_
 unfold words_IsMoment at h
 replace S := S.nk [] [(0, iV Aj)] [] rfl ⟨rfl, trivial⟩
 refine Fs (Fg (lv S (Ra rfl) rfl ?_));clear S;intro a S
 refine Ld (Tn (Fs (Fg (lv S (Rm (S.tm rfl)) rfl ?_))));clear S;intro a S
 refine lv S (rn_geq (S.tm rfl) rfl) rfl ?_;clear S;intro a S
 refine lv S (Rm (S.tm rfl)) rfl ?_;clear S;intro a S
 refine f_cutm 3 (fun a w' => Keep [] w w' ∧ Sx w [] nov [] [(8, bV ((decide (0 ≤ Aj)) && (decide (Aj < 345686400000))))] 9 a w') ?_ ?_
 ·rcases Bool.eq_false_or_eq_true (decide (0 ≤ Aj)) with hb1 | hb1
  ·refine l_want S rfl rfl rfl hb1 (lv S (Rm (S.tm rfl)) rfl ?_);clear S;intro a S
   refine l_want S rfl rfl rfl hb1 (lv S (rn_lss (S.tm rfl) rfl) rfl ?_);clear S;intro a S
   refine lv S (rn_and_t hb1 (S.tm rfl) (S.tm rfl)) rfl ?_;clear S;intro a S
   refine Ld (Tn ?_)
   exact ⟨Keep.refl _ _, S.nf [] rfl ⟨rfl, trivial⟩⟩
  ·refine l_skip S rfl rfl rfl (neq_f hb1) rfl ?_ rfl;clear S;intro a S
   refine l_skip S rfl rfl rfl (neq_f hb1) rfl ?_ rfl;clear S;intro a S
   refine lv S (rn_and_f (decide (Aj < 345686400000)) hb1 (S.tm rfl) rfl) rfl ?_;clear S;intro a S
   refine Ld (Tn ?_)
   exact ⟨Keep.refl _ _, S.nf [] rfl ⟨rfl, trivial⟩⟩
 clear S;rintro a w1 ⟨hk1, S⟩
 refine lv S (Ra (S.tm rfl)) rfl ?_;clear S;intro a S
 refine Ld (Tn (wp_ret ?_))
 subst h
 exact f_ret S Tryz.results78 rfl rfl
theorem words_Within_ok (w : World) (Aj : Int) (Ay : Int) (Au : Int) (r : Bool) (h : words_Within Aj Ay Au = r) :
    Calls Tryz.prog 79 [iV Aj, iV Ay, iV Au].toArray w (Ret w [] fun _ v _ => v = bV r) := by
 refine f_enter [] [] Tryz.func79 rfl Tryz.ntmps79 rfl (by simp) (by simp [fps]) (by simp [fps]) fun a S => ?_
 unfold words_Within at h
 replace S := S.nk [] [(0, iV Aj), (1, iV Ay), (2, iV Au)] [] rfl (subR rfl)
 refine Fs (Fg (lv S (Ra rfl) rfl ?_));clear S;intro a S
 refine Ld (Tn (Fs (Fg (lv S (Rm (S.tm rfl)) rfl ?_))));clear S;intro a S
 refine lv S (Rm (S.tm rfl)) rfl ?_;clear S;intro a S
 refine lv S (rn_geq (S.tm rfl) (S.tm rfl)) rfl ?_;clear S;intro a S
 refine lv S (Rm (S.tm rfl)) rfl ?_;clear S;intro a S
 refine f_cutm 4 (fun a w' => Keep [] w w' ∧ Sx w [] nov [] [(14, bV ((decide (Ay ≤ Aj)) && (decide (Aj ≤ Au))))] 15 a w') ?_ ?_
 ·rcases Bool.eq_false_or_eq_true (decide (Ay ≤ Aj)) with hb1 | hb1
  ·refine l_want S rfl rfl rfl hb1 (lv S (Rm (S.tm rfl)) rfl ?_);clear S;intro a S
   refine l_want S rfl rfl rfl hb1 (lv S (Rm (S.tm rfl)) rfl ?_);clear S;intro a S
   refine l_want S rfl rfl rfl hb1 (lv S (rn_leq (S.tm rfl) (S.tm rfl)) rfl ?_);clear S;intro a S
   refine lv S (rn_and_t hb1 (S.tm rfl) (S.tm rfl)) rfl ?_;clear S;intro a S
   refine Ld (Tn ?_)
   exact ⟨Keep.refl _ _, S.nf [] rfl ⟨rfl, trivial⟩⟩
  ·iterate 3 (refine l_skip S rfl rfl rfl (neq_f hb1) rfl ?_ rfl;clear S;intro a S)
   refine lv S (rn_and_f (decide (Aj ≤ Au)) hb1 (S.tm rfl) rfl) rfl ?_;clear S;intro a S
   refine Ld (Tn ?_)
   exact ⟨Keep.refl _ _, S.nf [] rfl ⟨rfl, trivial⟩⟩
 clear S;rintro a w1 ⟨hk1, S⟩
 refine lv S (Ra (S.tm rfl)) rfl ?_;clear S;intro a S
 refine Ld (Tn (wp_ret ?_))
 subst h
 exact f_ret S Tryz.results79 rfl rfl
theorem strings_Trim_ok (w : World) (s c : ByteArray) (r : ByteArray) (h : strings_Trim s c = some r) : Calls Tryz.prog 89 [.string s, .string c].toArray w (Ret w [] fun _ v _ => v = .string r) := by
  unfold strings_Trim at h
  obtain ⟨h1, h⟩ := chkE h
  obtain ⟨h2, h⟩ := chkE h
  obtain ⟨h3, h⟩ := chkE h
  obtain rfl := Option.some.inj h
  exact ret_of_below (Any.strings_Trim_laid Tryz.lays160 (by kernel_rfl) s c w (by simpa using h1) (by simpa using h2) (fun j b hb => by simpa using List.all_eq_true.1 h3 b (List.mem_of_getElem? hb)))
theorem words_IsKey_ok (w : World) (Z : ByteArray) (r : Bool) (h : words_IsKey Z = some r) :
    Calls Tryz.prog 80 [sV Z].toArray w (Ret w [] fun _ v _ => v = bV r) := by
 refine f_enter [] [] Tryz.func80 rfl Tryz.ntmps80 rfl (by simp) (by simp [fps]) (by simp [fps]) fun a S => ?_
 unfold words_IsKey at h
 replace S := S.nk [] [(0, sV Z)] [] rfl ⟨rfl, trivial⟩
 refine Fs (Fg (lv S (Ra rfl) rfl ?_));clear S;intro a S
 refine Ld (Tn (Fs (Fg (lv S (Rm (S.tm rfl)) rfl ?_))));clear S;intro a S
 refine lv S (rn_len_str Tryz.underlying9 (S.tm rfl)) rfl ?_;clear S;intro a S
 refine lv S (rn_geq (S.tm rfl) rfl) rfl ?_;clear S;intro a S
 refine lv S (Rm (S.tm rfl)) rfl ?_;clear S;intro a S
 refine f_cutm 4 (fun a w' => Keep [] w w' ∧ Sx w [] nov [] [(0, sV Z), (10, bV ((decide (1 ≤ (Z.size : Int))) && (decide ((Z.size : Int) ≤ 40))))] 26 a w') ?_ ?_
 ·rcases Bool.eq_false_or_eq_true (decide (1 ≤ (Z.size : Int))) with hb1 | hb1
  ·refine l_want S rfl rfl rfl hb1 (lv S (Rm (S.tm rfl)) rfl ?_);clear S;intro a S
   refine l_want S rfl rfl rfl hb1 (lv S (rn_len_str Tryz.underlying9 (S.tm rfl)) rfl ?_);clear S;intro a S
   refine l_want S rfl rfl rfl hb1 (lv S (rn_leq (S.tm rfl) rfl) rfl ?_);clear S;intro a S
   refine lv S (rn_and_t hb1 (S.tm rfl) (S.tm rfl)) rfl ?_;clear S;intro a S
   refine Ld (Tn ?_)
   exact ⟨Keep.refl _ _, S.nf [] rfl (subR rfl)⟩
  ·iterate 3 (refine l_skip S rfl rfl rfl (neq_f hb1) rfl ?_ rfl;clear S;intro a S)
   refine lv S (rn_and_f (decide ((Z.size : Int) ≤ 40)) hb1 (S.tm rfl) rfl) rfl ?_;clear S;intro a S
   refine Ld (Tn ?_)
   exact ⟨Keep.refl _ _, S.nf [] rfl (subR rfl)⟩
 clear S;rintro a w1 ⟨hk1, S⟩
 refine lv S (Rm (S.tm rfl)) rfl ?_;clear S;intro a S
 obtain ⟨j1, hj1, h⟩ := joinE h
 refine f_cutm 4 (fun a w' => ∃ c1, j1 c1 = some r ∧ Keep [] w1 w' ∧ Sx w [] nov [] [(0, sV Z), (15, bV c1)] 26 a w') ?_ ?_
 ·rcases Bool.eq_false_or_eq_true ((decide (1 ≤ (Z.size : Int))) && (decide ((Z.size : Int) ≤ 40))) with hb2 | hb2
  ·replace h := iteT h hb2
   refine l_want S rfl rfl rfl hb2 (lv S (Rm (S.tm rfl)) rfl ?_);clear S;intro a S
   refine l_want S rfl rfl rfl hb2 ?_
   obtain ⟨hc1, h⟩ := chkE h
   refine lv S (rn_sindexT Tryz.underlying9 (S.tm rfl) rfl hc1) rfl ?_;clear S;intro a S
   refine l_want S rfl rfl rfl hb2 (lv S (rn_geq (S.tm rfl) rfl) rfl ?_);clear S;intro a S
   refine lv S (rn_and_t hb2 (S.tm rfl) (S.tm rfl)) rfl ?_;clear S;intro a S
   refine Ld (Tn ?_)
   exact ⟨_, h, Keep.refl _ _, S.nf [] rfl (subR rfl)⟩
  ·replace h := iteF h hb2
   iterate 3 (refine l_skip S rfl rfl rfl (neq_f hb2) rfl ?_ rfl;clear S;intro a S)
   refine lv S (rn_and_f true hb2 (S.tm rfl) rfl) rfl ?_;clear S;intro a S
   refine Ld (Tn ?_)
   exact ⟨_, h, Keep.refl _ _, S.nf [] rfl (subR rfl)⟩
 clear S h;rintro a w2 ⟨c1, h, hk2, S⟩;rw [hj1] at h;clear hj1 j1
 refine lv S (Rm (S.tm rfl)) rfl ?_;clear S;intro a S
 obtain ⟨j2, hj2, h⟩ := joinE h
 refine f_cutm 4 (fun a w' => ∃ c2, j2 c2 = some r ∧ Keep [] w2 w' ∧ Sx w [] nov [] [(0, sV Z), (20, bV c2)] 26 a w') ?_ ?_
 ·rcases Bool.eq_false_or_eq_true c1 with hb3 | hb3
  ·replace h := iteT h hb3
   refine l_want S rfl rfl rfl hb3 (lv S (Rm (S.tm rfl)) rfl ?_);clear S;intro a S
   refine l_want S rfl rfl rfl hb3 ?_
   obtain ⟨hc2, h⟩ := chkE h
   refine lv S (rn_sindexT Tryz.underlying9 (S.tm rfl) rfl hc2) rfl ?_;clear S;intro a S
   refine l_want S rfl rfl rfl hb3 (lv S (rn_leq (S.tm rfl) rfl) rfl ?_);clear S;intro a S
   refine lv S (rn_and_t hb3 (S.tm rfl) (S.tm rfl)) rfl ?_;clear S;intro a S
   refine Ld (Tn ?_)
   exact ⟨_, h, Keep.refl _ _, S.nf [] rfl (subR rfl)⟩
  ·replace h := iteF h hb3
   iterate 3 (refine l_skip S rfl rfl rfl (neq_f hb3) rfl ?_ rfl;clear S;intro a S)
   refine lv S (rn_and_f true hb3 (S.tm rfl) rfl) rfl ?_;clear S;intro a S
   refine Ld (Tn ?_)
   exact ⟨_, h, Keep.refl _ _, S.nf [] rfl (subR rfl)⟩
 clear S h;rintro a w3 ⟨c2, h, hk3, S⟩;rw [hj2] at h;clear hj2 j2
 refine lv S (Rm (S.tm rfl)) rfl ?_;clear S;intro a S
 obtain ⟨j3, hj3, h⟩ := joinE h
 refine f_cutm 4 (fun a w' => ∃ c3, j3 c3 = some r ∧ Keep [] w3 w' ∧ Sx w [] nov [] [(25, bV c3)] 26 a w') ?_ ?_
 ·rcases Bool.eq_false_or_eq_true c2 with hb4 | hb4
  ·replace h := iteT h hb4
   refine l_want S rfl rfl rfl hb4 (lv S (Rm (S.tm rfl)) rfl ?_);clear S;intro a S
   refine l_want S rfl rfl rfl hb4 ?_
   obtain ⟨r1, hr1, h⟩ := bindE h
   refine l_enter S (fun _ => run_call (vs := [sV Z, sV k_abcdefghijkl_h0e2e2c]) ⟨(S.tm rfl), rfl, trivial⟩ Tryz.call89) (strings_Trim_ok _ Z k_abcdefghijkl_h0e2e2c _ hr1) rfl ?_;clear S;intro v1 a w5 hv1 hk4 hn1 S
   subst hv1
   refine l_want S rfl rfl rfl hb4 (lv S (rn_seql (S.tm rfl) rfl) rfl ?_);clear S;intro a S
   refine lv S (rn_and_t hb4 (S.tm rfl) (S.tm rfl)) rfl ?_;clear S;intro a S
   refine Ld (Tn ?_)
   exact ⟨_, h, hk4, S.nf [] rfl ⟨rfl, trivial⟩⟩
  ·replace h := iteF h hb4
   iterate 3 (refine l_skip S rfl rfl rfl (neq_f hb4) rfl ?_ rfl;clear S;intro a S)
   refine lv S (rn_and_f true hb4 (S.tm rfl) rfl) rfl ?_;clear S;intro a S
   refine Ld (Tn ?_)
   exact ⟨_, h, Keep.refl _ _, S.nf [] rfl ⟨rfl, trivial⟩⟩
 clear S h;rintro a w4 ⟨c3, h, hk5, S⟩;rw [hj3] at h;clear hj3 j3
 refine lv S (Ra (S.tm rfl)) rfl ?_;clear S;intro a S
 refine Ld (Tn (wp_ret ?_))
 obtain rfl := Option.some.inj h
 exact f_ret S Tryz.results80 rfl rfl
theorem timing_IsTime_ok (w : World) (Aj : Int) (r : Bool) (h : timing_IsTime Aj = r) :
    Calls Tryz.prog 81 [iV Aj].toArray w (Ret w [] fun _ v _ => v = bV r) := by
 refine f_enter [] [] Tryz.func81 rfl Tryz.ntmps81 rfl (by simp) (by simp [fps]) (by simp [fps]) fun a S => ?_
 unfold timing_IsTime at h
 replace S := S.nk [] [(0, iV Aj)] [] rfl ⟨rfl, trivial⟩
 refine Fs (Fg (lv S (Ra rfl) rfl ?_));clear S;intro a S
 refine Ld (Tn (Fs (Fg (lv S (Rm (S.tm rfl)) rfl ?_))));clear S;intro a S
 refine l_enter S (fun _ => run_call (vs := [iV Aj, iV 1, iV 360000]) ⟨(S.tm rfl), rfl, rfl, trivial⟩ Tryz.call79) (words_Within_ok _ Aj 1 360000 _ rfl) rfl ?_;clear S;intro v1 a w1 hv1 hk1 hn1 S
 subst hv1
 refine lv S (Ra (S.tm rfl)) rfl ?_;clear S;intro a S
 refine Ld (Tn (wp_ret ?_))
 subst h
 exact f_ret S Tryz.results81 rfl rfl
theorem record_checkStep_ok (w : World) (Al : GStep) (r : Int) (h : record_checkStep Al = some r) :
    Calls Tryz.prog 54 [.agg (GStep.enc Al).toArray].toArray w (Ret w [] fun _ v _ => v = iV r) := by
 refine f_enter [] [] Tryz.func54 rfl Tryz.ntmps54 rfl (by simp) (by simp [fps]) (by simp [fps]) fun a S => ?_
 unfold record_checkStep at h
 replace S := S.nk [] [(0, .agg (GStep.enc Al).toArray)] [] rfl ⟨rfl, trivial⟩
 refine Fs (Fg (l_box S (S.tm rfl) (cs := (GStep.enc Al)) rfl rfl ?_));clear S;intro a w1 b1 hz1 hk1 S
 refine lv S (Ra rfl) rfl ?_;clear S;intro a S
 refine Ld (Tn (Fs ?_))
 obtain ⟨j1, hj1, h⟩ := joinE h
 refine f_join (fun a w' => j1 = some r ∧ Sx w [] nov [] [] 64 a w') ?_ ?_
 ·refine wp_block (Fs (Fg (lv S (rn_fld fa_39_0 (S.tm rfl)) rfl ?_)));clear S;intro a S
  refine lv S (rn_load Tryz.isAgg3 (S.tm rfl) (S.cell (i := 0) rfl rfl)) rfl ?_;clear S;intro a S
  refine l_enter S (fun _ => run_call (vs := [iV Al.At]) ⟨(S.tm rfl), trivial⟩ Tryz.call78) (words_IsMoment_ok _ Al.At _ rfl) rfl ?_;clear S;intro v1 a w3 hv1 hk2 hn1 S
  subst hv1
  refine lv S (rn_not (S.tm rfl)) rfl ?_;clear S;intro a S
  refine lv S (Ra (S.tm rfl)) rfl ?_;clear S;intro a S
  refine Ld (Tn (f_cond (S.tm rfl) (fun hb1 => ?_) (fun hb1 => ?_)))
  ·replace h := iteT h hb1
   refine Fs (Fg (lv S (Ra rfl) rfl ?_));clear S;intro a S
   refine Ld (Tn (wp_ret (blk_r (then_r (then_r ?_)))))
   obtain rfl := Option.some.inj h
   exact f_ret S Tryz.results54 rfl rfl
  ·replace h := iteF h hb1
   refine Fs (Fg (lv S (rn_fld fa_39_1 (S.tm rfl)) rfl ?_));clear S;intro a S
   refine lv S (rn_load Tryz.isAgg3 (S.tm rfl) (S.cell (i := 0) rfl rfl)) rfl ?_;clear S;intro a S
   refine l_enter S (fun _ => run_call (vs := [iV Al.Kind, iV 1, iV 3]) ⟨(S.tm rfl), rfl, rfl, trivial⟩ Tryz.call79) (words_Within_ok _ Al.Kind 1 3 _ rfl) rfl ?_;clear S;intro v2 a w4 hv2 hk3 hn2 S
   subst hv2
   refine lv S (rn_not (S.tm rfl)) rfl ?_;clear S;intro a S
   refine lv S (Ra (S.tm rfl)) rfl ?_;clear S;intro a S
   refine Ld (Tn (f_cond (S.tm rfl) (fun hb2 => ?_) (fun hb2 => ?_)))
   ·replace h := iteT h hb2
    refine Fs (Fg (lv S (Ra rfl) rfl ?_));clear S;intro a S
    refine Ld (Tn (wp_ret (blk_r (then_r (then_r ?_)))))
    obtain rfl := Option.some.inj h
    exact f_ret S Tryz.results54 rfl rfl
   ·replace h := iteF h hb2
    refine Fs (Fg (lv S (rn_fld fa_39_2 (S.tm rfl)) rfl ?_));clear S;intro a S
    refine lv S (rn_load Tryz.isAgg9 (S.tm rfl) (S.cell (i := 0) rfl rfl)) rfl ?_;clear S;intro a S
    obtain ⟨r1, hr1, h⟩ := bindE h
    refine l_enter S (fun _ => run_call (vs := [sV Al.Id]) ⟨(S.tm rfl), trivial⟩ Tryz.call80) (words_IsKey_ok _ Al.Id _ hr1) rfl ?_;clear S;intro v3 a w5 hv3 hk4 hn3 S
    subst hv3
    refine lv S (rn_not (S.tm rfl)) rfl ?_;clear S;intro a S
    refine lv S (Ra (S.tm rfl)) rfl ?_;clear S;intro a S
    refine Ld ?_
    replace S := S.nk [.blk b1 (GStep.enc Al) 39] [(1, .pointer (some ⟨b1, 0, none⟩)), (13, bV (!r1))] [true] rfl (subR rfl)
    refine Tn (f_cond (S.tm rfl) (fun hb3 => ?_) (fun hb3 => ?_))
    ·replace h := iteT h hb3
     refine Fs (Fg (lv S (Ra rfl) rfl ?_));clear S;intro a S
     refine Ld (Tn (wp_ret (blk_r (then_r (then_r ?_)))))
     obtain rfl := Option.some.inj h
     exact f_ret S Tryz.results54 rfl rfl
    ·replace h := iteF h hb3
     refine Fs (Fg (lv S (rn_fld fa_39_1 (S.tm rfl)) rfl ?_));clear S;intro a S
     refine lv S (rn_load Tryz.isAgg3 (S.tm rfl) (S.cell (i := 0) rfl rfl)) rfl ?_;clear S;intro a S
     refine lv S (rn_neq (S.tm rfl) rfl) rfl ?_;clear S;intro a S
     refine lv S (Ra (S.tm rfl)) rfl ?_;clear S;intro a S
     refine Ld (Tn ?_)
     obtain ⟨j2, hj2, h⟩ := joinE h
     refine f_join (fun a w' => j2 = some r ∧ Sx w [] nov [] [] 64 a w') ?_ ?_
     ·refine f_cond (S.tm rfl) (fun hb4 => ?_) (fun hb4 => ?_)
      ·replace h := iteT h hb4
       refine Fs (Fg (lv S (rn_ldA Tryz.isAgg39 Tryz.sizeOf39 (off := 0) (o := 0) (part := (GStep.enc Al)) rfl rfl (S.tm rfl) (S.cellsAt (i := 0) rfl)) rfl ?_));clear S;intro a S
       refine lv S (rn_fld fa_39_0 (S.tm rfl)) rfl ?_;clear S;intro a S
       refine lv S (rn_load Tryz.isAgg3 (S.tm rfl) (S.cell (i := 0) rfl rfl)) rfl ?_;clear S;intro a S
       refine lv S (rn_fld fa_39_1 (S.tm rfl)) rfl ?_;clear S;intro a S
       refine lv S (rn_load Tryz.isAgg3 (S.tm rfl) (S.cell (i := 0) rfl rfl)) rfl ?_;clear S;intro a S
       refine lv S (rn_fld fa_39_2 (S.tm rfl)) rfl ?_;clear S;intro a S
       refine lv S (rn_load Tryz.isAgg9 (S.tm rfl) (S.cell (i := 0) rfl rfl)) rfl ?_;clear S;intro a S
       refine lv S (rn_bld bt_39 (pv := [(0, iV Al.At), (1, iV Al.Kind), (2, sV Al.Id)]) ⟨rfl, (S.tm rfl), rfl, (S.tm rfl), rfl, (S.tm rfl), trivial⟩ (cs := [iV Al.At, iV Al.Kind, sV Al.Id, sV k_empty, sV k_empty, sV k_empty, iV 0, iV 0]) (by kernel_rfl)) rfl ?_;clear S;intro a S
       refine lv S (rn_neq_39 (m := Al) (n := (GStep.mk Al.At Al.Kind Al.Id k_empty k_empty k_empty 0 0)) (S.tm rfl) (S.tm rfl)) rfl ?_;clear S;intro a S
       refine Ld ?_
       replace S := S.nk [] [(30, bV (!decide (Al = (GStep.mk Al.At Al.Kind Al.Id k_empty k_empty k_empty 0 0))))] [false] rfl ⟨rfl, trivial⟩
       refine Tn (f_cond (S.tm rfl) (fun hb5 => ?_) (fun hb5 => ?_))
       ·replace h := iteT h hb5
        refine Fs (Fg (lv S (Ra rfl) rfl ?_));clear S;intro a S
        refine Ld (Tn (wp_ret (then_r (blk_r (then_r (then_r ?_))))))
        obtain rfl := Option.some.inj h
        exact f_ret S Tryz.results54 rfl rfl
       ·replace h := iteF h hb5
        refine wp_skip (Tn ?_)
        exact ⟨h, S.nf [] rfl trivial⟩
      ·replace h := iteF h hb4
       refine Fs (Fg (lv S (rn_fld fa_39_3 (S.tm rfl)) rfl ?_));clear S;intro a S
       refine lv S (rn_load Tryz.isAgg9 (S.tm rfl) (S.cell (i := 0) rfl rfl)) rfl ?_;clear S;intro a S
       obtain ⟨r2, hr2, h⟩ := bindE h
       refine l_enter S (fun _ => run_call (vs := [sV Al.Who]) ⟨(S.tm rfl), trivial⟩ Tryz.call80) (words_IsKey_ok _ Al.Who _ hr2) rfl ?_;clear S;intro v4 a w7 hv4 hk5 hn4 S
       subst hv4
       refine lv S (rn_not (S.tm rfl)) rfl ?_;clear S;intro a S
       refine lv S (Rm (S.tm rfl)) rfl ?_;clear S;intro a S
       obtain ⟨j3, hj3, h⟩ := joinE h
       refine f_cutm 5 (fun a w' => ∃ c1, j3 c1 = some r ∧ Keep [] w7 w' ∧ Sx w [] nov [.blk b1 (GStep.enc Al) 39] [(1, .pointer (some ⟨b1, 0, none⟩)), (41, bV c1)] 64 a w') ?_ ?_
       ·rcases Bool.eq_false_or_eq_true (!r2) with hb6 | hb6
        ·replace h := iteT h hb6
         iterate 4 (refine l_skip S rfl rfl rfl (neq_t hb6) rfl ?_ rfl;clear S;intro a S)
         refine lv S (rn_or_t true hb6 (S.tm rfl) rfl) rfl ?_;clear S;intro a S
         refine Ld (Tn ?_)
         exact ⟨_, h, Keep.refl _ _, S.nf [true] rfl (subR rfl)⟩
        ·replace h := iteF h hb6
         refine l_want S rfl rfl rfl hb6 (lv S (rn_fld fa_39_5 (S.tm rfl)) rfl ?_);clear S;intro a S
         refine l_want S rfl rfl rfl hb6 (lv S (rn_load Tryz.isAgg9 (S.tm rfl) (S.cell (i := 0) rfl rfl)) rfl ?_);clear S;intro a S
         refine l_want S rfl rfl rfl hb6 ?_
         obtain ⟨r3, hr3, h⟩ := bindE h
         refine l_enter S (fun _ => run_call (vs := [sV Al.Race]) ⟨(S.tm rfl), trivial⟩ Tryz.call80) (words_IsKey_ok _ Al.Race _ hr3) rfl ?_;clear S;intro v5 a w9 hv5 hk6 hn5 S
         subst hv5
         refine l_want S rfl rfl rfl hb6 (lv S (rn_not (S.tm rfl)) rfl ?_);clear S;intro a S
         refine lv S (rn_or_f hb6 (S.tm rfl) (S.tm rfl)) rfl ?_;clear S;intro a S
         refine Ld (Tn ?_)
         exact ⟨_, h, hk6, S.nf [true] rfl (subR rfl)⟩
       clear S h;rintro a w8 ⟨c1, h, hk7, S⟩;rw [hj3] at h;clear hj3 j3
       refine lv S (Rm (S.tm rfl)) rfl ?_;clear S;intro a S
       obtain ⟨j4, hj4, h⟩ := joinE h
       refine f_cutm 10 (fun a w' => ∃ c2, j4 c2 = some r ∧ Keep [] w8 w' ∧ Sx w [] nov [.blk b1 (GStep.enc Al) 39] [(1, .pointer (some ⟨b1, 0, none⟩)), (52, bV c2)] 64 a w') ?_ ?_
       ·rcases Bool.eq_false_or_eq_true c1 with hb7 | hb7
        ·replace h := iteT h hb7
         iterate 4 (refine l_skip S rfl rfl rfl (neq_t hb7) rfl ?_ rfl;clear S;intro a S)
         iterate 4 (refine l_skipU S rfl rfl rfl rfl ?_;clear S;intro a S)
         refine l_skip S rfl rfl rfl (neq_t hb7) rfl ?_ rfl;clear S;intro a S
         refine lv S (rn_or_t true hb7 (S.tm rfl) rfl) rfl ?_;clear S;intro a S
         refine Ld (Tn ?_)
         exact ⟨_, h, Keep.refl _ _, S.nf [true] rfl (subR rfl)⟩
        ·replace h := iteF h hb7
         refine l_want S rfl rfl rfl hb7 (lv S (rn_fld fa_39_4 (S.tm rfl)) rfl ?_);clear S;intro a S
         refine l_want S rfl rfl rfl hb7 (lv S (rn_load Tryz.isAgg9 (S.tm rfl) (S.cell (i := 0) rfl rfl)) rfl ?_);clear S;intro a S
         refine l_want S rfl rfl rfl hb7 (lv S (rn_sneq (S.tm rfl) rfl) rfl ?_);clear S;intro a S
         refine l_want S rfl rfl rfl hb7 (lv S (Rm (S.tm rfl)) rfl ?_);clear S;intro a S
         obtain ⟨j5, hj5, h⟩ := joinE h
         refine f_cutm 5 (fun a w' => ∃ c3, j5 c3 = some r ∧ Keep [] w8 w' ∧ Sx w [] nov [.blk b1 (GStep.enc Al) 39] [(1, .pointer (some ⟨b1, 0, none⟩)), (42, bV c1), (51, bV c3)] 64 a w') ?_ ?_
         ·rcases Bool.eq_false_or_eq_true (!decide (Al.Club = k_empty)) with hb8 | hb8
          ·replace h := iteT h hb8
           refine l_want S rfl rfl rfl hb8 (lv S (rn_fld fa_39_4 (S.tm rfl)) rfl ?_);clear S;intro a S
           refine l_want S rfl rfl rfl hb8 (lv S (rn_load Tryz.isAgg9 (S.tm rfl) (S.cell (i := 0) rfl rfl)) rfl ?_);clear S;intro a S
           refine l_want S rfl rfl rfl hb8 ?_
           obtain ⟨r4, hr4, h⟩ := bindE h
           refine l_enter S (fun _ => run_call (vs := [sV Al.Club]) ⟨(S.tm rfl), trivial⟩ Tryz.call80) (words_IsKey_ok _ Al.Club _ hr4) rfl ?_;clear S;intro v6 a w12 hv6 hk8 hn6 S
           subst hv6
           refine l_want S rfl rfl rfl hb8 (lv S (rn_not (S.tm rfl)) rfl ?_);clear S;intro a S
           refine l_want S rfl rfl rfl hb7 (lv S (rn_and_t hb8 (S.tm rfl) (S.tm rfl)) rfl ?_);clear S;intro a S
           refine Ld (Tn ?_)
           exact ⟨_, h, hk8, S.nf [true] rfl (subR rfl)⟩
          ·replace h := iteF h hb8
           iterate 4 (refine l_skip S rfl rfl rfl (neq_f hb8) rfl ?_ rfl;clear S;intro a S)
           refine l_want S rfl rfl rfl hb7 (lv S (rn_and_f true hb8 (S.tm rfl) rfl) rfl ?_);clear S;intro a S
           refine Ld (Tn ?_)
           exact ⟨_, h, Keep.refl _ _, S.nf [true] rfl (subR rfl)⟩
         clear S h;rintro a w11 ⟨c3, h, hk9, S⟩;rw [hj5] at h;clear hj5 j5
         refine lv S (rn_or_f hb7 (S.tm rfl) (S.tm rfl)) rfl ?_;clear S;intro a S
         refine Ld (Tn ?_)
         exact ⟨_, h, hk9, S.nf [true] rfl (subR rfl)⟩
       clear S h;rintro a w10 ⟨c2, h, hk10, S⟩;rw [hj4] at h;clear hj4 j4
       refine lv S (Ra (S.tm rfl)) rfl ?_;clear S;intro a S
       refine Ld (Tn (f_cond (S.tm rfl) (fun hb9 => ?_) (fun hb9 => ?_)))
       ·replace h := iteT h hb9
        refine Fs (Fg (lv S (Ra rfl) rfl ?_));clear S;intro a S
        refine Ld (Tn (wp_ret (then_r (blk_r (then_r (then_r ?_))))))
        obtain rfl := Option.some.inj h
        exact f_ret S Tryz.results54 rfl rfl
       ·replace h := iteF h hb9
        refine Fs (Fg (lv S (rn_fld fa_39_6 (S.tm rfl)) rfl ?_));clear S;intro a S
        refine lv S (rn_load Tryz.isAgg3 (S.tm rfl) (S.cell (i := 0) rfl rfl)) rfl ?_;clear S;intro a S
        refine l_enter S (fun _ => run_call (vs := [iV Al.Age, iV 0, iV 150]) ⟨(S.tm rfl), rfl, rfl, trivial⟩ Tryz.call79) (words_Within_ok _ Al.Age 0 150 _ rfl) rfl ?_;clear S;intro v7 a w13 hv7 hk11 hn7 S
        subst hv7
        refine lv S (rn_not (S.tm rfl)) rfl ?_;clear S;intro a S
        refine lv S (Rm (S.tm rfl)) rfl ?_;clear S;intro a S
        refine f_cutm 5 (fun a w' => Keep [] w13 w' ∧ Sx w [] nov [.blk b1 (GStep.enc Al) 39] [(63, bV ((!(words_Within Al.Age 0 150)) || (!(timing_IsTime Al.Time))))] 64 a w') ?_ ?_
        ·rcases Bool.eq_false_or_eq_true (!(words_Within Al.Age 0 150)) with hb10 | hb10
         ·iterate 4 (refine l_skip S rfl rfl rfl (neq_t hb10) rfl ?_ rfl;clear S;intro a S)
          refine lv S (rn_or_t (!(timing_IsTime Al.Time)) hb10 (S.tm rfl) rfl) rfl ?_;clear S;intro a S
          refine Ld (Tn ?_)
          exact ⟨Keep.refl _ _, S.nf [true] rfl ⟨rfl, trivial⟩⟩
         ·refine l_want S rfl rfl rfl hb10 (lv S (rn_fld fa_39_7 (S.tm rfl)) rfl ?_);clear S;intro a S
          refine l_want S rfl rfl rfl hb10 (lv S (rn_load Tryz.isAgg3 (S.tm rfl) (S.cell (i := 0) rfl rfl)) rfl ?_);clear S;intro a S
          refine l_want S rfl rfl rfl hb10 (l_enter S (fun _ => run_call (vs := [iV Al.Time]) ⟨(S.tm rfl), trivial⟩ Tryz.call81) (timing_IsTime_ok _ Al.Time _ rfl) rfl ?_);clear S;intro v8 a w15 hv8 hk12 hn8 S
          subst hv8
          refine l_want S rfl rfl rfl hb10 (lv S (rn_not (S.tm rfl)) rfl ?_);clear S;intro a S
          refine lv S (rn_or_f hb10 (S.tm rfl) (S.tm rfl)) rfl ?_;clear S;intro a S
          refine Ld (Tn ?_)
          exact ⟨hk12, S.nf [true] rfl ⟨rfl, trivial⟩⟩
        clear S;rintro a w14 ⟨hk13, S⟩
        refine lv S (Ra (S.tm rfl)) rfl ?_;clear S;intro a S
        refine Ld (Tn (f_cond (S.tm rfl) (fun hb11 => ?_) (fun hb11 => ?_)))
        ·replace h := iteT h hb11
         refine Fs (Fg (lv S (Ra rfl) rfl ?_));clear S;intro a S
         refine Ld (Tn (wp_ret (then_r (blk_r (then_r (then_r ?_))))))
         obtain rfl := Option.some.inj h
         exact f_ret S Tryz.results54 rfl rfl
        ·replace h := iteF h hb11
         refine wp_skip (Tn ?_)
         exact ⟨h, S.nf [false] rfl trivial⟩
     clear S h;rintro a w6 ⟨h, S⟩;rw [hj2] at h;clear hj2 j2
     refine blk_n (Tn ?_)
     exact ⟨h, S.nf [] rfl trivial⟩
 clear S h;rintro a w2 ⟨h, S⟩;rw [hj1] at h;clear hj1 j1
 refine Tn (Fs (Fg (lv S (Ra rfl) rfl ?_)));clear S;intro a S
 refine Ld (Tn (wp_ret ?_))
 obtain rfl := Option.some.inj h
 exact f_ret S Tryz.results54 rfl rfl
theorem cmp_isNaN_int_ok (w : World) (Al : Int) (r : Bool) (h : cmp_isNaN_int Al = r) :
    Calls Tryz.prog 97 [iV Al].toArray w (Ret w [] fun _ v _ => v = bV r) := by
 refine f_enter [] [] Tryz.func97 rfl Tryz.ntmps97 rfl (by simp) (by simp [fps]) (by simp [fps]) fun a S => ?_
 unfold cmp_isNaN_int at h
 replace S := S.nk [] [(0, iV Al)] [] rfl ⟨rfl, trivial⟩
 refine Fs (Fg (lv S (Ra rfl) rfl ?_));clear S;intro a S
 refine Ld (Tn (Fs (Fg (lv S (Rm (S.tm rfl)) rfl ?_))));clear S;intro a S
 refine lv S (Rm (S.tm rfl)) rfl ?_;clear S;intro a S
 refine lv S (rn_neq (S.tm rfl) (S.tm rfl)) rfl ?_;clear S;intro a S
 refine lv S (Ra (S.tm rfl)) rfl ?_;clear S;intro a S
 refine Ld (Tn (wp_ret ?_))
 subst h
 exact f_ret S Tryz.results97 rfl rfl
theorem cmp_Compare_int_ok (w : World) (Al : Int) (Bx : Int) (r : Int) (h : cmp_Compare_int Al Bx = r) :
    Calls Tryz.prog 83 [iV Al, iV Bx].toArray w (Ret w [] fun _ v _ => v = iV r) := by
 refine f_enter [] [] Tryz.func83 rfl Tryz.ntmps83 rfl (by simp) (by simp [fps]) (by simp [fps]) fun a S => ?_
 unfold cmp_Compare_int at h
 replace S := S.nk [] [(0, iV Al), (1, iV Bx)] [] rfl (subR rfl)
 refine Fs (Fg (lv S (Ra rfl) rfl ?_));clear S;intro a S
 refine Ld (Tn (Fs (Fg (lv S (Rm (S.tm rfl)) rfl ?_))));clear S;intro a S
 refine l_enter S (fun _ => run_call (vs := [iV Al]) ⟨(S.tm rfl), trivial⟩ Tryz.call97) (cmp_isNaN_int_ok _ Al _ rfl) rfl ?_;clear S;intro v1 a w1 hv1 hk1 hn1 S
 subst hv1
 refine lv S (Ra (S.tm rfl)) rfl ?_;clear S;intro a S
 refine Ld (Tn (Fs (Fg (lv S (Rm (S.tm rfl)) rfl ?_))));clear S;intro a S
 refine l_enter S (fun _ => run_call (vs := [iV Bx]) ⟨(S.tm rfl), trivial⟩ Tryz.call97) (cmp_isNaN_int_ok _ Bx _ rfl) rfl ?_;clear S;intro v2 a w2 hv2 hk2 hn2 S
 subst hv2
 refine lv S (Ra (S.tm rfl)) rfl ?_;clear S;intro a S
 refine Ld (Tn (Fs (Fs (Fg (lv S (Rm (S.tm rfl)) rfl ?_)))));clear S;intro a S
 refine Ld (Tn (f_cond (S.tm rfl) (fun hb1 => ?_) (fun hb1 => ?_)))
 ·replace h := iteT h hb1
  refine Fs (Fs (Fg (lv S (Rm (S.tm rfl)) rfl ?_)));clear S;intro a S
  refine Ld (Tn (f_cond (S.tm rfl) (fun hb2 => ?_) (fun hb2 => ?_)))
  ·replace h := iteT h hb2
   refine Fs (Fg (lv S (Ra rfl) rfl ?_));clear S;intro a S
   refine Ld (Tn (wp_ret (then_r (then_r ?_))))
   subst h
   exact f_ret S Tryz.results83 rfl rfl
  ·replace h := iteF h hb2
   refine wp_skip (Tn (Fs (Fg (lv S (Ra rfl) rfl ?_))));clear S;intro a S
   refine Ld (Tn (wp_ret (then_r ?_)))
   subst h
   exact f_ret S Tryz.results83 rfl rfl
 ·replace h := iteF h hb1
  refine wp_skip (Tn (Fs (Fs (Fg (lv S (Rm (S.tm rfl)) rfl ?_)))));clear S;intro a S
  refine Ld (Tn (f_cond (S.tm rfl) (fun hb3 => ?_) (fun hb3 => ?_)))
  ·replace h := iteT h hb3
   refine Fs (Fg (lv S (Ra rfl) rfl ?_));clear S;intro a S
   refine Ld (Tn (wp_ret (then_r ?_)))
   subst h
   exact f_ret S Tryz.results83 rfl rfl
  ·replace h := iteF h hb3
   refine wp_skip (Tn (Fs (Fs (Fg (lv S (Rm (S.tm rfl)) rfl ?_)))));clear S;intro a S
   refine lv S (Rm (S.tm rfl)) rfl ?_;clear S;intro a S
   refine lv S (rn_lss (S.tm rfl) (S.tm rfl)) rfl ?_;clear S;intro a S
   refine Ld (Tn (f_cond (S.tm rfl) (fun hb4 => ?_) (fun hb4 => ?_)))
   ·replace h := iteT h hb4
    refine Fs (Fg (lv S (Ra rfl) rfl ?_));clear S;intro a S
    refine Ld (Tn (wp_ret (then_r ?_)))
    subst h
    exact f_ret S Tryz.results83 rfl rfl
   ·replace h := iteF h hb4
    refine wp_skip (Tn (Fs (Fs (Fg (lv S (Rm (S.tm rfl)) rfl ?_)))));clear S;intro a S
    refine lv S (Rm (S.tm rfl)) rfl ?_;clear S;intro a S
    refine lv S (rn_gtr (S.tm rfl) (S.tm rfl)) rfl ?_;clear S;intro a S
    refine Ld ?_
    replace S := S.nk [] [(19, bV (decide (Bx < Al)))] [] rfl ⟨rfl, trivial⟩
    refine Tn (f_cond (S.tm rfl) (fun hb5 => ?_) (fun hb5 => ?_))
    ·replace h := iteT h hb5
     refine Fs (Fg (lv S (Ra rfl) rfl ?_));clear S;intro a S
     refine Ld (Tn (wp_ret (then_r ?_)))
     subst h
     exact f_ret S Tryz.results83 rfl rfl
    ·replace h := iteF h hb5
     refine wp_skip (Tn (Fs (Fg (lv S (Ra rfl) rfl ?_))));clear S;intro a S
     refine Ld (Tn (wp_ret ?_))
     subst h
     exact f_ret S Tryz.results83 rfl rfl
theorem cmp_Or_int_ok (w : World) (Bk : Value) (Bi : List Int) (Bt : Slc (view w []) 1 Bk (Bi.map eInt)) (r : Int) (h : cmp_Or_int Bi = r) :
    Calls Tryz.prog 82 [Bk].toArray w (Ret w [] fun _ v _ => v = iV r) := by
 refine f_enter [] [] Tryz.func82 rfl Tryz.ntmps82 rfl (by simp) (by simp [fps]) (by simp [fps]) fun a S => ?_
 unfold cmp_Or_int at h
 replace S := S.nk [] [(0, Bk)] [] rfl ⟨rfl, trivial⟩
 refine Fs (Fg (lv S (Ra rfl) rfl ?_));clear S;intro a S
 refine Ld (Tn (Fs (Fg (lv S (Ra rfl) rfl ?_))));clear S;intro a S
 refine Ld (Tn (Fs (Fs (Fg (lv S (Rm (S.tm rfl)) rfl ?_)))));clear S;intro a S
 refine lv S (rn_lenT sl_22 (S.tm rfl) (slc_len Bt)) rfl ?_;clear S;intro a S
 refine lv S (Rm rfl) rfl ?_;clear S;intro a S
 refine Ld (Tn ?_)
 replace S := S.nk [] [(3, iV 0), (6, Bk), (7, iV (Bi.length : Int)), (8, iV 0)] [] rfl (subR rfl)
 obtain ⟨j1, hj1, h⟩ := joinE h
 refine f_join (fun a w' => j1 = r ∧ Sx w [] nov [] [(3, iV 0)] 18 a w') ?_ ?_
 ·refine wp_block (f_loop (fun (ys1 : List Int) a w' => ∃ i1 : Nat, (∃ dn, Bi = dn ++ ys1 ∧ dn.length = i1) ∧ cmp_Or_int_l1 j1 ys1 i1 = r ∧ Sx w [] nov [] [(3, iV 0), (6, Bk), (7, iV (Bi.length : Int)), (8, iV (i1 : Int))] 18 a w') List.length Bi ⟨0, ⟨[], rfl, rfl⟩, h, S.nf [] rfl (subR rfl)⟩ ?_)
  clear S h;rintro ys1 a w1 ⟨i1, ⟨dn, hd1, hi1⟩, h, S⟩
  cases ys1 with
  | nil =>
   rw [cmp_Or_int_l1.eq_1] at h
   refine Fs (Fg (lv S (rn_lss (S.tm rfl) (S.tm rfl)) rfl ?_));clear S;intro a S
   refine Ld ?_
   replace S := S.nk [] [(3, iV 0), (6, Bk), (7, iV (Bi.length : Int)), (8, iV (i1 : Int)), (9, bV (decide ((i1 : Int) < (Bi.length : Int))))] [] rfl (subR rfl)
   refine Tn (Fs (wp_cond_false ((S.tm rfl).trans (congrArg Value.bool (rng_nil hd1 hi1))) (wp_exit (then_x (then_x (x_same ?_))))))
   refine Tn ?_
   exact ⟨h, S.nf [] rfl ⟨rfl, trivial⟩⟩
  | cons y1 ys1 =>
   rw [cmp_Or_int_l1.eq_2] at h
   refine Fs (Fg (lv S (rn_lss (S.tm rfl) (S.tm rfl)) rfl ?_));clear S;intro a S
   refine Ld ?_
   replace S := S.nk [] [(3, iV 0), (6, Bk), (7, iV (Bi.length : Int)), (8, iV (i1 : Int)), (9, bV (decide ((i1 : Int) < (Bi.length : Int))))] [] rfl (subR rfl)
   refine Tn (Fs (wp_cond_true ((S.tm rfl).trans (congrArg Value.bool (rng_cons hd1 hi1))) (wp_skip (Tn (Fs (wp_block ?_))))))
   refine Fs (Fg ?_)
   obtain ⟨b1, o1, hm1, hr1⟩ := rn_indexT (a := a) (x := .tmp 6) (y := .tmp 8) (ty := 0) sl_22 Bt (get_mid hd1 hi1) rfl (S.tm rfl) (S.tm rfl)
   refine lv S (hr1 _) rfl ?_;clear S;intro a S
   clear hr1
   refine lv S (rn_ld Tryz.isAgg3 (off := o1) (o := 0) (S.tm rfl) (hm1.at S.emb0) rfl) rfl ?_;clear S;intro a S
   refine lv S (Ra (S.tm rfl)) rfl ?_;clear S;intro a S
   refine Ld (Tn (Fs (Fg (lv S (Rm (S.tm rfl)) rfl ?_))));clear S;intro a S
   refine lv S (Rm (S.tm rfl)) rfl ?_;clear S;intro a S
   refine lv S (rn_neq (S.tm rfl) (S.tm rfl)) rfl ?_;clear S;intro a S
   refine Ld (Tn (f_cond (S.tm rfl) (fun hb1 => ?_) (fun hb1 => ?_)))
   ·replace h := iteT h hb1
    refine Fs (Fg (lv S (Rm (S.tm rfl)) rfl ?_));clear S;intro a S
    refine lv S (Ra (S.tm rfl)) rfl ?_;clear S;intro a S
    refine Ld (Tn (wp_ret (blk_r (then_r (then_r (blk_r ?_))))))
    refine then_r (then_r ?_)
    subst h
    exact f_ret S Tryz.results82 rfl rfl
   ·replace h := iteF h hb1
    refine wp_skip (blk_n (Tn (Fg (lv S (rn_add (S.tm rfl) rfl) rfl ?_))));clear S;intro a S
    refine lv S (Rm (S.tm rfl)) rfl ?_;clear S;intro a S
    refine Ld (Tn ?_)
    exact ⟨ys1, ⟨i1 + 1, ⟨_, (hd1).trans (List.append_cons _ _ _), by simp [hi1]⟩, h, S.nf [] rfl ⟨rfl, rfl, rfl, (congrArg (fun z => some (Value.int .i64 z)) (rng_next hd1 hi1 (slc_max Bt))), trivial⟩⟩, Nat.lt_succ_self _⟩
 clear S h;rintro a w2 ⟨h, S⟩;rw [hj1] at h;clear hj1 j1
 refine Tn (Fs (Fg (lv S (Rm (S.tm rfl)) rfl ?_)));clear S;intro a S
 refine lv S (Ra (S.tm rfl)) rfl ?_;clear S;intro a S
 refine Ld (Tn (wp_ret ?_))
 subst h
 exact f_ret S Tryz.results82 rfl rfl
end Go.Proofs.YtamfhhmfioghgaaGreatDoor
