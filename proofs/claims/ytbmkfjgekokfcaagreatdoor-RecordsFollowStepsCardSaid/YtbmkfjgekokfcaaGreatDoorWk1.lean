/- Each Go function computes its plain twin, by program. -/
import Derived.Test.YtbmkfjgekokfcaaGreatDoorTab
import Derived.Test.YtbmkfjgekokfcaaGreatDoorLay
import Derived.Test.YtbmkfjgekokfcaaGreatDoorSort
namespace Go.Proofs.YtbmkfjgekokfcaaGreatDoor
open Go
theorem tumbmake_Below_ok (w : World) (Ah : Int) (Am : Int) (r : Int) (h : tumbmake_Below Ah Am = some r) :
    Calls Tryz.prog 43 [iV Ah, iV Am].toArray w (Ret w [] fun _ v _ => v = iV r) := by
 refine f_enter [] [] Tryz.func43 rfl Tryz.ntmps43 rfl (by simp) (by simp [fps]) (by simp [fps]) fun a S => ?_
 unfold tumbmake_Below at h
 replace S := S.nk [] [(0, iV Ah), (1, iV Am)] [] rfl (subR rfl)
 refine Fs (Fg (lv S (Ra rfl) rfl ?_));clear S;intro a S
 refine Ld (Tn (Fs (Fs (Fg (lv S (Rm (S.tm rfl)) rfl ?_)))));clear S;intro a S
 refine lv S (rn_lss (S.tm rfl) rfl) rfl ?_;clear S;intro a S
 refine Ld (Tn (f_cond (S.tm rfl) (fun hb1 => ?_) (fun hb1 => ?_)))
 ·replace h := iteT h hb1
  refine Fs (Fg (lv S (Ra rfl) rfl ?_));clear S;intro a S
  refine Ld (Tn (wp_ret (then_r ?_)))
  obtain rfl := Option.some.inj h
  exact f_ret S Tryz.results43 rfl rfl
 ·replace h := iteF h hb1
  refine wp_skip (Tn (Fs (Fg (lv S (Rm (S.tm rfl)) rfl ?_))));clear S;intro a S
  refine lv S (Rm (S.tm rfl)) rfl ?_;clear S;intro a S
  obtain ⟨hc1, h⟩ := chkE h
  refine lv S (rn_rem (S.tm rfl) (S.tm rfl) (ne0_of hc1)) rfl ?_;clear S;intro a S
  refine lv S (Ra (S.tm rfl)) rfl ?_;clear S;intro a S
  refine Ld (Tn (Fs (Fs (Fg (lv S (Rm (S.tm rfl)) rfl ?_)))));clear S;intro a S
  refine lv S (rn_lss (S.tm rfl) rfl) rfl ?_;clear S;intro a S
  refine Ld (Tn ?_)
  obtain ⟨j1, hj1, h⟩ := joinE h
  refine f_join (fun a w' => ∃ x1 : Int, j1 x1 = some r ∧ Sx w [] nov [] [(0, iV x1)] 16 a w') ?_ ?_
  ·refine f_cond (S.tm rfl) (fun hb2 => ?_) (fun hb2 => ?_)
   ·replace h := iteT h hb2
    refine Fg (lv S (Rm (S.tm rfl)) rfl ?_);clear S;intro a S
    refine lv S (Rm (S.tm rfl)) rfl ?_;clear S;intro a S
    refine lv S (rn_add (S.tm rfl) (S.tm rfl)) rfl ?_;clear S;intro a S
    refine lv S (Ra (S.tm rfl)) rfl ?_;clear S;intro a S
    refine Ld (Tn ?_)
    exact ⟨W ((Int.tmod Ah Am) + Am), h, S.nf [] rfl ⟨rfl, trivial⟩⟩
   ·replace h := iteF h hb2
    refine wp_skip (Tn ?_)
    exact ⟨Int.tmod Ah Am, h, S.nf [] rfl ⟨rfl, trivial⟩⟩
  clear S h;rintro a w1 ⟨x1, h, S⟩;rw [hj1] at h;clear hj1 j1
  refine Tn (Fs (Fg (lv S (Rm (S.tm rfl)) rfl ?_)));clear S;intro a S
  refine lv S (Ra (S.tm rfl)) rfl ?_;clear S;intro a S
  refine Ld (Tn (wp_ret ?_))
  obtain rfl := Option.some.inj h
  exact f_ret S Tryz.results43 rfl rfl
set_option maxRecDepth 20000 in
theorem Stream_Next_ok (w : World) (O : Nat) (U : Value) (Af : List Int) (Ag : Slc (view w [O]) 1 U (Af.map eInt)) (Ad : Int) (Aw : (LEnt.blk O [U, iV Ad] 25).holds w) (Am : Int) (r : Int × Int) (h : Stream_Next Af Ad Am = some r) :
    Calls Tryz.prog 21 [.pointer (some ⟨O, 0, none⟩), iV Am].toArray w (Ret w [O] fun _ v w' => (LEnt.blk O [U, iV r.2] 25).holds w' ∧ v = iV r.1) := by
 refine f_enter [O] [.blk O [U, iV Ad] 25] Tryz.func21 rfl Tryz.ntmps21 rfl (fun e he => by simp only [List.mem_singleton] at he;subst he;exact Aw) (by simp [fps, LEnt.fp]) (by simp [fps, LEnt.fp]) fun a S => ?_
 unfold Stream_Next at h
 replace S := S.nk [.blk O [U, iV Ad] 25] [(0, .pointer (some ⟨O, 0, none⟩)), (1, iV Am)] [true] rfl (subR rfl)
 refine Fs (Fg (lv S (Ra rfl) rfl ?_));clear S;intro a S
 refine Ld (Tn (Fs (Fg (lv S (Rm (S.tm rfl)) rfl ?_))));clear S;intro a S
 refine lv S (rn_nilCheck (S.tm rfl)) rfl ?_;clear S;intro a S
 refine lv S (rn_fld fa_25_1 (S.tm rfl)) rfl ?_;clear S;intro a S
 refine lv S (rn_load Tryz.isAgg3 (S.tm rfl) (S.cell (i := 0) rfl rfl)) rfl ?_;clear S;intro a S
 refine lv S (rn_add (S.tm rfl) rfl) rfl ?_;clear S;intro a S
 refine lv S (rn_nilCheck (S.tm rfl)) rfl ?_;clear S;intro a S
 refine lv S (rn_fld fa_25_1 (S.tm rfl)) rfl ?_;clear S;intro a S
 refine l_store S (S.tm rfl) (S.tm rfl) (i := 0) (off := 1) rfl Tryz.sizeOf3 (vs := [iV (W (Ad + 1))]) rfl rfl rfl rfl ?_;clear S;intro w1 hk1 S
 refine Ld (Tn (Fs (Fs (Fg (lv S (Rm (S.tm rfl)) rfl ?_)))));clear S;intro a S
 refine lv S (rn_nilCheck (S.tm rfl)) rfl ?_;clear S;intro a S
 refine lv S (rn_fld fa_25_0 (S.tm rfl)) rfl ?_;clear S;intro a S
 refine lv S (rn_load Tryz.isAgg22 (S.tm rfl) (S.cell (i := 0) rfl rfl)) rfl ?_;clear S;intro a S
 refine lv S (rn_lenT sl_22 (S.tm rfl) (slc_len Ag)) rfl ?_;clear S;intro a S
 refine lv S (rn_eql (S.tm rfl) rfl) rfl ?_;clear S;intro a S
 refine Ld ?_
 replace S := S.nk [.blk O [U, iV (W (Ad + 1))] 25] [(0, .pointer (some ⟨O, 0, none⟩)), (1, iV Am), (19, bV (decide ((Af.length : Int) = 0)))] [true] rfl (subR rfl)
 refine Tn (f_cond (S.tm rfl) (fun hb1 => ?_) (fun hb1 => ?_))
 ·replace h := iteT h hb1
  refine Fs (Fg (lv S (Rm (S.tm rfl)) rfl ?_));clear S;intro a S
  refine lv S (rn_nilCheck (S.tm rfl)) rfl ?_;clear S;intro a S
  refine lv S (rn_fld fa_25_1 (S.tm rfl)) rfl ?_;clear S;intro a S
  refine lv S (rn_load Tryz.isAgg3 (S.tm rfl) (S.cell (i := 0) rfl rfl)) rfl ?_;clear S;intro a S
  refine lv S (rn_mul (S.tm rfl) rfl) rfl ?_;clear S;intro a S
  refine lv S (Rm (S.tm rfl)) rfl ?_;clear S;intro a S
  obtain ⟨r1, hr1, h⟩ := bindE h
  refine l_enter S (fun _ => run_call (vs := [iV (W ((W (Ad + 1)) * 7919)), iV Am]) ⟨(S.tm rfl), (S.tm rfl), trivial⟩ Tryz.call43) (tumbmake_Below_ok _ (W ((W (Ad + 1)) * 7919)) Am _ hr1) rfl ?_;clear S;intro v1 a w2 hv1 hk2 hn1 S
  subst hv1
  refine lv S (Ra (S.tm rfl)) rfl ?_;clear S;intro a S
  refine Ld (Tn (wp_ret (then_r ?_)))
  obtain rfl := Option.some.inj h
  exact f_ret S Tryz.results21 rfl ⟨(S.holds _ (List.mem_of_getElem? (i := 0) rfl)), rfl⟩
 ·replace h := iteF h hb1
  refine wp_skip (Tn (Fs (d_region [] ([]) Tryz.mixed S rfl (by kernel_rfl) ?_)));clear S;intro w3 hk3 hsel S
  refine d_rest [0, 1, 2, 3, 4, 5, 6, 7, 8, 9, 10, 11] hsel (by kernel_rfl) rfl ?_
  clear hsel
  refine s_lv S rfl (Rm (S.tm rfl)) rfl ?_;clear S;intro a S
  refine s_lv S rfl (rn_nilCheck (S.tm rfl)) rfl ?_;clear S;intro a S
  refine s_lv S rfl (rn_fld fa_25_1 (S.tm rfl)) rfl ?_;clear S;intro a S
  refine s_lv S rfl (rn_load Tryz.isAgg3 (S.tm rfl) (S.cell (i := 0) rfl rfl)) rfl ?_;clear S;intro a S
  refine s_lv S rfl (rn_sub (S.tm rfl) rfl) rfl ?_;clear S;intro a S
  refine s_lv S rfl (Rm (S.tm rfl)) rfl ?_;clear S;intro a S
  refine s_lv S rfl (rn_nilCheck (S.tm rfl)) rfl ?_;clear S;intro a S
  refine s_lv S rfl (rn_fld fa_25_0 (S.tm rfl)) rfl ?_;clear S;intro a S
  refine s_lv S rfl (rn_load Tryz.isAgg22 (S.tm rfl) (S.cell (i := 0) rfl rfl)) rfl ?_;clear S;intro a S
  refine s_lv S rfl (rn_lenT sl_22 (S.tm rfl) (slc_len Ag)) rfl ?_;clear S;intro a S
  obtain ⟨hc1, h⟩ := chkE h
  refine s_lv S rfl (rn_rem (S.tm rfl) (S.tm rfl) (ne0_of hc1)) rfl ?_;clear S;intro a S
  refine s_lv S rfl (Ra (S.tm rfl)) rfl ?_;clear S;intro a S
  refine s_done ?_
  replace S := S.nk [.blk O [U, iV (W (Ad + 1))] 25] [(0, .pointer (some ⟨O, 0, none⟩)), (1, iV Am), (5, iV (Int.tmod (W ((W (Ad + 1)) - 1)) (Af.length : Int)))] [true] rfl (subR rfl)
  refine Tn (Fs (d_region [] ([]) Tryz.mixed S rfl (by kernel_rfl) ?_));clear S;intro w4 hk4 hsel S
  refine d_rest [0, 1, 2, 3, 4, 5, 6, 7, 8, 9, 10, 11] hsel (by kernel_rfl) rfl ?_
  clear hsel
  refine s_lv S rfl (Rm (S.tm rfl)) rfl ?_;clear S;intro a S
  refine s_lv S rfl (rn_nilCheck (S.tm rfl)) rfl ?_;clear S;intro a S
  refine s_lv S rfl (rn_fld fa_25_1 (S.tm rfl)) rfl ?_;clear S;intro a S
  refine s_lv S rfl (rn_load Tryz.isAgg3 (S.tm rfl) (S.cell (i := 0) rfl rfl)) rfl ?_;clear S;intro a S
  refine s_lv S rfl (rn_sub (S.tm rfl) rfl) rfl ?_;clear S;intro a S
  refine s_lv S rfl (Rm (S.tm rfl)) rfl ?_;clear S;intro a S
  refine s_lv S rfl (rn_nilCheck (S.tm rfl)) rfl ?_;clear S;intro a S
  refine s_lv S rfl (rn_fld fa_25_0 (S.tm rfl)) rfl ?_;clear S;intro a S
  refine s_lv S rfl (rn_load Tryz.isAgg22 (S.tm rfl) (S.cell (i := 0) rfl rfl)) rfl ?_;clear S;intro a S
  refine s_lv S rfl (rn_lenT sl_22 (S.tm rfl) (slc_len Ag)) rfl ?_;clear S;intro a S
  obtain ⟨hc2, h⟩ := chkE h
  refine s_lv S rfl (rn_quo (S.tm rfl) (S.tm rfl) (ne0_of hc2)) rfl ?_;clear S;intro a S
  refine s_lv S rfl (Ra (S.tm rfl)) rfl ?_;clear S;intro a S
  refine s_done ?_
  replace S := S.nk [.blk O [U, iV (W (Ad + 1))] 25] [(0, .pointer (some ⟨O, 0, none⟩)), (1, iV Am), (5, iV (Int.tmod (W ((W (Ad + 1)) - 1)) (Af.length : Int))), (6, iV (W (Int.tdiv (W ((W (Ad + 1)) - 1)) (Af.length : Int))))] [true] rfl (subR rfl)
  refine Tn (Fs (Fg (lv S (Rm (S.tm rfl)) rfl ?_)));clear S;intro a S
  refine lv S (rn_nilCheck (S.tm rfl)) rfl ?_;clear S;intro a S
  refine lv S (rn_fld fa_25_0 (S.tm rfl)) rfl ?_;clear S;intro a S
  refine lv S (rn_load Tryz.isAgg22 (S.tm rfl) (S.cell (i := 0) rfl rfl)) rfl ?_;clear S;intro a S
  refine lv S (Rm (S.tm rfl)) rfl ?_;clear S;intro a S
  obtain ⟨hc3, h⟩ := chkE h
  obtain ⟨b1, o1, hm1, hr2⟩ := rn_indexT (a := a) (x := .tmp 52) (y := .tmp 53) (ty := 0) sl_22 Ag (inB_get hc3).1 (inB_get hc3).2 (S.tm rfl) (S.tm rfl)
  refine lv S (hr2 _) rfl ?_;clear S;intro a S
  clear hr2
  refine lv S (rn_ld Tryz.isAgg3 (off := o1) (o := 0) (S.tm rfl) (hm1.at S.emb0) rfl) rfl ?_;clear S;intro a S
  obtain ⟨r2, hr3, h⟩ := bindE h
  refine l_enter S (fun _ => run_call (vs := [iV (nth Af (Int.tmod (W ((W (Ad + 1)) - 1)) (Af.length : Int))), iV 1073741824]) ⟨(S.tm rfl), rfl, trivial⟩ Tryz.call43) (tumbmake_Below_ok _ (nth Af (Int.tmod (W ((W (Ad + 1)) - 1)) (Af.length : Int))) 1073741824 _ hr3) rfl ?_;clear S;intro v2 a w5 hv2 hk5 hn2 S
  subst hv2
  refine lv S (Rm (S.tm rfl)) rfl ?_;clear S;intro a S
  refine lv S (Rm (S.tm rfl)) rfl ?_;clear S;intro a S
  refine lv S (rn_add rfl (S.tm rfl)) rfl ?_;clear S;intro a S
  refine lv S (rn_mul (S.tm rfl) (S.tm rfl)) rfl ?_;clear S;intro a S
  refine lv S (rn_add (S.tm rfl) (S.tm rfl)) rfl ?_;clear S;intro a S
  refine lv S (Rm (S.tm rfl)) rfl ?_;clear S;intro a S
  obtain ⟨r3, hr4, h⟩ := bindE h
  refine l_enter S (fun _ => run_call (vs := [iV (W (r2 + (W ((W (Int.tdiv (W ((W (Ad + 1)) - 1)) (Af.length : Int))) * (W (7919 + (Int.tmod (W ((W (Ad + 1)) - 1)) (Af.length : Int)))))))), iV Am]) ⟨(S.tm rfl), (S.tm rfl), trivial⟩ Tryz.call43) (tumbmake_Below_ok _ (W (r2 + (W ((W (Int.tdiv (W ((W (Ad + 1)) - 1)) (Af.length : Int))) * (W (7919 + (Int.tmod (W ((W (Ad + 1)) - 1)) (Af.length : Int)))))))) Am _ hr4) rfl ?_;clear S;intro v3 a w6 hv3 hk6 hn3 S
  subst hv3
  refine lv S (Ra (S.tm rfl)) rfl ?_;clear S;intro a S
  refine Ld ?_
  replace S := S.nk [.blk O [U, iV (W (Ad + 1))] 25] [(4, iV r3)] [true] rfl ⟨rfl, trivial⟩
  refine Tn (wp_ret ?_)
  obtain rfl := Option.some.inj h
  exact f_ret S Tryz.results21 rfl ⟨(S.holds _ (List.mem_of_getElem? (i := 0) rfl)), rfl⟩
theorem Stream_Flip_ok (w : World) (O : Nat) (U : Value) (Af : List Int) (Ag : Slc (view w [O]) 1 U (Af.map eInt)) (Ad : Int) (Aw : (LEnt.blk O [U, iV Ad] 25).holds w) (Am : Int) (r : Bool × Int) (h : Stream_Flip Af Ad Am = some r) :
    Calls Tryz.prog 16 [.pointer (some ⟨O, 0, none⟩), iV Am].toArray w (Ret w [O] fun _ v w' => (LEnt.blk O [U, iV r.2] 25).holds w' ∧ v = bV r.1) := by
 refine f_enter [O] [.blk O [U, iV Ad] 25] Tryz.func16 rfl Tryz.ntmps16 rfl (fun e he => by simp only [List.mem_singleton] at he;subst he;exact Aw) (by simp [fps, LEnt.fp]) (by simp [fps, LEnt.fp]) fun a S => ?_
 unfold Stream_Flip at h
 replace S := S.nk [.blk O [U, iV Ad] 25] [(0, .pointer (some ⟨O, 0, none⟩)), (1, iV Am)] [true] rfl (subR rfl)
 refine Fs (Fg (lv S (Ra rfl) rfl ?_));clear S;intro a S
 refine Ld (Tn (Fs (Fg (lv S (Rm (S.tm rfl)) rfl ?_))));clear S;intro a S
 refine lv S (Rm (S.tm rfl)) rfl ?_;clear S;intro a S
 obtain ⟨r1, hr1, h⟩ := bindE h
 refine l_enter1 0 S (b := O) rfl rfl (fun _ => .blk O [U, iV r1.2] 25) (fun _ => run_call (vs := [.pointer (some ⟨O, 0, none⟩), iV Am]) ⟨(S.tm rfl), (S.tm rfl), trivial⟩ Tryz.call21) (Stream_Next_ok _ O U Af (Ag.mono (S.le_arg (fp_sub (i := 0) (e := .blk O [U, iV Ad] 25) rfl))) Ad (S.holds _ (List.mem_of_getElem? (i := 0) rfl)) Am _ hr1) rfl (fun _ _ _ h => ⟨h.1, fun _ hc => by cases hc;rfl⟩) ?_;clear S;intro v1 a w1 hv1 hk1 hn1 S
 replace hv1 := hv1.2
 subst hv1
 refine lv S (rn_eql (S.tm rfl) rfl) rfl ?_;clear S;intro a S
 refine lv S (Ra (S.tm rfl)) rfl ?_;clear S;intro a S
 refine Ld (Tn (wp_ret ?_))
 obtain rfl := Option.some.inj h
 exact f_ret S Tryz.results16 rfl ⟨(S.holds _ (List.mem_of_getElem? (i := 0) rfl)), rfl⟩
theorem Stream_Some_ok (w : World) (O : Nat) (U : Value) (Af : List Int) (Ag : Slc (view w [O]) 1 U (Af.map eInt)) (Ad : Int) (Aw : (LEnt.blk O [U, iV Ad] 25).holds w) (V : Value) (Z : List ByteArray) (Ae : Slc (view w [O]) 1 V (Z.map eStr)) (r : ByteArray × Int) (h : Stream_Some Af Ad Z = some r) :
    Calls Tryz.prog 17 [.pointer (some ⟨O, 0, none⟩), V].toArray w (Ret w [O] fun _ v w' => (LEnt.blk O [U, iV r.2] 25).holds w' ∧ v = sV r.1) := by
 refine f_enter [O] [.blk O [U, iV Ad] 25] Tryz.func17 rfl Tryz.ntmps17 rfl (fun e he => by simp only [List.mem_singleton] at he;subst he;exact Aw) (by simp [fps, LEnt.fp]) (by simp [fps, LEnt.fp]) fun a S => ?_
 unfold Stream_Some at h
 replace S := S.nk [.blk O [U, iV Ad] 25] [(0, .pointer (some ⟨O, 0, none⟩)), (1, V)] [true] rfl (subR rfl)
 refine Fs (Fg (lv S (Ra rfl) rfl ?_));clear S;intro a S
 refine Ld (Tn (Fs (Fg (lv S (Rm (S.tm rfl)) rfl ?_))));clear S;intro a S
 refine lv S (Rm (S.tm rfl)) rfl ?_;clear S;intro a S
 refine lv S (Rm (S.tm rfl)) rfl ?_;clear S;intro a S
 refine lv S (rn_lenT sl_51 (S.tm rfl) (slc_len Ae)) rfl ?_;clear S;intro a S
 obtain ⟨r1, hr1, h⟩ := bindE h
 refine l_enter1 0 S (b := O) rfl rfl (fun _ => .blk O [U, iV r1.2] 25) (fun _ => run_call (vs := [.pointer (some ⟨O, 0, none⟩), iV (Z.length : Int)]) ⟨(S.tm rfl), (S.tm rfl), trivial⟩ Tryz.call21) (Stream_Next_ok _ O U Af (Ag.mono (S.le_arg (fp_sub (i := 0) (e := .blk O [U, iV Ad] 25) rfl))) Ad (S.holds _ (List.mem_of_getElem? (i := 0) rfl)) (Z.length : Int) _ hr1) rfl (fun _ _ _ h => ⟨h.1, fun _ hc => by cases hc;rfl⟩) ?_;clear S;intro v1 a w1 hv1 hk1 hn1 S
 replace hv1 := hv1.2
 subst hv1
 obtain ⟨hc1, h⟩ := chkE h
 obtain ⟨b1, o1, hm1, hr2⟩ := rn_indexT (a := a) (x := .tmp 5) (y := .tmp 9) (ty := 0) sl_51 Ae (inB_get hc1).1 (inB_get hc1).2 (S.tm rfl) (S.tm rfl)
 refine lv S (hr2 _) rfl ?_;clear S;intro a S
 clear hr2
 refine lv S (rn_ld Tryz.isAgg9 (off := o1) (o := 0) (S.tm rfl) (hm1.at S.emb0) rfl) rfl ?_;clear S;intro a S
 refine lv S (Ra (S.tm rfl)) rfl ?_;clear S;intro a S
 refine Ld (Tn (wp_ret ?_))
 obtain rfl := Option.some.inj h
 exact f_ret S Tryz.results17 rfl ⟨(S.holds _ (List.mem_of_getElem? (i := 0) rfl)), rfl⟩
theorem Stream_Pick_ok (w : World) (O : Nat) (U : Value) (Af : List Int) (Ag : Slc (view w [O]) 1 U (Af.map eInt)) (Ad : Int) (Aw : (LEnt.blk O [U, iV Ad] 25).holds w) (V : Value) (Z : List Int) (Ae : Slc (view w [O]) 1 V (Z.map eInt)) (r : Int × Int) (h : Stream_Pick Af Ad Z = some r) :
    Calls Tryz.prog 18 [.pointer (some ⟨O, 0, none⟩), V].toArray w (Ret w [O] fun _ v w' => (LEnt.blk O [U, iV r.2] 25).holds w' ∧ v = iV r.1) := by
 refine f_enter [O] [.blk O [U, iV Ad] 25] Tryz.func18 rfl Tryz.ntmps18 rfl (fun e he => by simp only [List.mem_singleton] at he;subst he;exact Aw) (by simp [fps, LEnt.fp]) (by simp [fps, LEnt.fp]) fun a S => ?_
 unfold Stream_Pick at h
 replace S := S.nk [.blk O [U, iV Ad] 25] [(0, .pointer (some ⟨O, 0, none⟩)), (1, V)] [true] rfl (subR rfl)
 refine Fs (Fg (lv S (Ra rfl) rfl ?_));clear S;intro a S
 refine Ld (Tn (Fs (Fg (lv S (Rm (S.tm rfl)) rfl ?_))));clear S;intro a S
 refine lv S (Rm (S.tm rfl)) rfl ?_;clear S;intro a S
 refine lv S (Rm (S.tm rfl)) rfl ?_;clear S;intro a S
 refine lv S (rn_lenT sl_22 (S.tm rfl) (slc_len Ae)) rfl ?_;clear S;intro a S
 obtain ⟨r1, hr1, h⟩ := bindE h
 refine l_enter1 0 S (b := O) rfl rfl (fun _ => .blk O [U, iV r1.2] 25) (fun _ => run_call (vs := [.pointer (some ⟨O, 0, none⟩), iV (Z.length : Int)]) ⟨(S.tm rfl), (S.tm rfl), trivial⟩ Tryz.call21) (Stream_Next_ok _ O U Af (Ag.mono (S.le_arg (fp_sub (i := 0) (e := .blk O [U, iV Ad] 25) rfl))) Ad (S.holds _ (List.mem_of_getElem? (i := 0) rfl)) (Z.length : Int) _ hr1) rfl (fun _ _ _ h => ⟨h.1, fun _ hc => by cases hc;rfl⟩) ?_;clear S;intro v1 a w1 hv1 hk1 hn1 S
 replace hv1 := hv1.2
 subst hv1
 obtain ⟨hc1, h⟩ := chkE h
 obtain ⟨b1, o1, hm1, hr2⟩ := rn_indexT (a := a) (x := .tmp 5) (y := .tmp 9) (ty := 0) sl_22 Ae (inB_get hc1).1 (inB_get hc1).2 (S.tm rfl) (S.tm rfl)
 refine lv S (hr2 _) rfl ?_;clear S;intro a S
 clear hr2
 refine lv S (rn_ld Tryz.isAgg3 (off := o1) (o := 0) (S.tm rfl) (hm1.at S.emb0) rfl) rfl ?_;clear S;intro a S
 refine lv S (Ra (S.tm rfl)) rfl ?_;clear S;intro a S
 refine Ld (Tn (wp_ret ?_))
 obtain rfl := Option.some.inj h
 exact f_ret S Tryz.results18 rfl ⟨(S.holds _ (List.mem_of_getElem? (i := 0) rfl)), rfl⟩
theorem Stream_RightKinds_ok (w : World) (O : Nat) (U : Value) (Af : List Int) (Ag : Slc (view w [O]) 1 U (Af.map eInt)) (Ad : Int) (Aw : (LEnt.blk O [U, iV Ad] 25).holds w) (r : (List GKind) × Int) (h : Stream_RightKinds Af Ad = some r) :
    Calls Tryz.prog 4 [.pointer (some ⟨O, 0, none⟩)].toArray w (Ret w [O] fun τ v w' => (LEnt.blk O [U, iV r.2] 25).holds w' ∧ OwnD τ 56 5 R56.enc rel_56 v r.1) := by
 refine f_enter [O] [.blk O [U, iV Ad] 25] Tryz.func4 rfl Tryz.ntmps4 rfl (fun e he => by simp only [List.mem_singleton] at he;subst he;exact Aw) (by simp [fps, LEnt.fp]) (by simp [fps, LEnt.fp]) fun a S => ?_
 unfold Stream_RightKinds at h
 replace S := S.nk [.blk O [U, iV Ad] 25] [(0, .pointer (some ⟨O, 0, none⟩))] [true] rfl ⟨rfl, trivial⟩
 refine Fs (Fg (lv S (Ra rfl) rfl ?_));clear S;intro a S
 refine Ld (Tn (Fs (Fg (lv S (Ra rfl) rfl ?_))));clear S;intro a S
 replace S := S.nil 56 5
 refine Ld (Tn (Fs (Fs (Fg (l_buildSlice S Tryz.underlying51 Tryz.sizeOf9 Tryz.zeroValue9 rfl rfl (pv := [(0, sV k_ka), (1, sV k_kb), (2, sV k_kc)]) ⟨rfl, rfl, rfl, rfl, rfl, rfl, trivial⟩ (cs := [sV k_ka, sV k_kb, sV k_kc]) (by kernel_rfl) rfl ?_)))));clear S;intro a w1 b1 hz1 hk1 S
 refine lv S (rn_lenT sl_51 (S.tm rfl) ⟨_, _, rfl⟩) rfl ?_;clear S;intro a S
 refine lv S (Rm rfl) rfl ?_;clear S;intro a S
 refine Ld (Tn ?_)
 replace S := S.nk [.blk b1 [sV k_ka, sV k_kb, sV k_kc] 9, .own (.slice none 0 0) 56 5 ([] : List R56).length (([] : List R56).flatMap R56.enc), .blk O [U, iV Ad] 25] [(0, .pointer (some ⟨O, 0, none⟩)), (3, (.slice none 0 0)), (9, .slice (some ⟨b1, 0, none⟩) 3 3), (10, iV (([k_ka, k_kb, k_kc] : List ByteArray).length : Int)), (11, iV 0)] [true, true, true] rfl (subR rfl)
 replace S := S.litOwn (i := 0) (xs := [k_ka, k_kb, k_kc]) rfl enc_str rfl rfl rfl
 replace S := S.nk [.own (.slice (some ⟨b1, 0, none⟩) 3 3) 9 1 ([k_ka, k_kb, k_kc] : List ByteArray).length (([k_ka, k_kb, k_kc] : List ByteArray).flatMap eStr), .own (.slice none 0 0) 56 5 ([] : List R56).length (([] : List R56).flatMap R56.enc), .blk O [U, iV Ad] 25] [(0, .pointer (some ⟨O, 0, none⟩)), (3, (.slice none 0 0)), (9, (.slice (some ⟨b1, 0, none⟩) 3 3)), (10, iV (([k_ka, k_kb, k_kc] : List ByteArray).length : Int)), (11, iV 0)] [] rfl (subR rfl)
 obtain ⟨φ1, hl1, hs1, S⟩ := S.freezeT (xs := ([k_ka, k_kb, k_kc] : List ByteArray)) (enc := eStr) (i := 0) rfl (fun c hc hh => not_fps S (i := 2) rfl rfl (j := 0) rfl rfl (by simp at hc;subst hc;exact hh))
 replace S := S.nk [.own (.slice none 0 0) 56 5 ([] : List R56).length (([] : List R56).flatMap R56.enc), .blk O [U, iV Ad] 25] [(0, .pointer (some ⟨O, 0, none⟩)), (3, (.slice none 0 0)), (9, (.slice (some ⟨b1, 0, none⟩) 3 3)), (10, iV (([k_ka, k_kb, k_kc] : List ByteArray).length : Int)), (11, iV 0)] [] rfl (subR rfl)
 obtain ⟨j1, hj1, h⟩ := joinE h
 refine f_join (fun a w' => ∃ x1 : List GKind, ∃ x2 : Int, ∃ φ2 : View, ∃ v1 : Value, ∃ rs1 : List R56, j1 x1 x2 = some r ∧ View.le φ1 φ2 ∧ All2 (rel_56 φ2) x1 rs1 ∧ Sx w [O] φ2 [.own v1 56 5 rs1.length (rs1.flatMap R56.enc), .blk O [U, iV x2] 25] [(3, v1)] 49 a w') ?_ ?_
 ·refine wp_block (f_loop (fun (ys1 : List ByteArray) a w' => ∃ i1 : Nat, ∃ x1 : List GKind, ∃ x2 : Int, ∃ φ2 : View, ∃ v1 : Value, ∃ rs1 : List R56, (∃ dn, ([k_ka, k_kb, k_kc] : List ByteArray) = dn ++ ys1 ∧ dn.length = i1) ∧ Stream_RightKinds_l1 Af j1 ys1 i1 x1 x2 = some r ∧ View.le φ1 φ2 ∧ All2 (rel_56 φ2) x1 rs1 ∧ Sx w [O] φ2 [.own v1 56 5 rs1.length (rs1.flatMap R56.enc), .blk O [U, iV x2] 25] [(0, .pointer (some ⟨O, 0, none⟩)), (3, v1), (9, (.slice (some ⟨b1, 0, none⟩) 3 3)), (10, iV (([k_ka, k_kb, k_kc] : List ByteArray).length : Int)), (11, iV (i1 : Int))] 49 a w') List.length ([k_ka, k_kb, k_kc] : List ByteArray) ⟨0, ([] : List GKind), Ad, φ1, (.slice none 0 0), ([] : List R56), ⟨[], rfl, rfl⟩, h, View.le_refl _, .nil, S.nf [true, true] rfl (subR rfl)⟩ ?_)
  clear S h;rintro ys1 a w2 ⟨i1, x1, x2, φ2, v1, rs1, ⟨dn, hd1, hi1⟩, h, hl2, hr1, S⟩
  cases ys1 with
  | nil =>
   rw [Stream_RightKinds_l1.eq_1] at h
   refine Fs (Fg (lv S (rn_lss (S.tm rfl) (S.tm rfl)) rfl ?_));clear S;intro a S
   refine Ld ?_
   replace S := S.nk [.own v1 56 5 rs1.length (rs1.flatMap R56.enc), .blk O [U, iV x2] 25] [(0, .pointer (some ⟨O, 0, none⟩)), (3, v1), (9, (.slice (some ⟨b1, 0, none⟩) 3 3)), (10, iV (([k_ka, k_kb, k_kc] : List ByteArray).length : Int)), (11, iV (i1 : Int)), (12, bV (decide ((i1 : Int) < (([k_ka, k_kb, k_kc] : List ByteArray).length : Int))))] [true, true] rfl (subR rfl)
   refine Tn (Fs (wp_cond_false ((S.tm rfl).trans (congrArg Value.bool (rng_nil hd1 hi1))) (wp_exit (then_x (then_x (x_same ?_))))))
   refine Tn ?_
   exact ⟨x1, x2, φ2, v1, rs1, h, hl2, hr1, S.nf [true, true] rfl ⟨rfl, trivial⟩⟩
  | cons y1 ys1 =>
   rw [Stream_RightKinds_l1.eq_2] at h
   refine Fs (Fg (lv S (rn_lss (S.tm rfl) (S.tm rfl)) rfl ?_));clear S;intro a S
   refine Ld ?_
   replace S := S.nk [.own v1 56 5 rs1.length (rs1.flatMap R56.enc), .blk O [U, iV x2] 25] [(0, .pointer (some ⟨O, 0, none⟩)), (3, v1), (9, (.slice (some ⟨b1, 0, none⟩) 3 3)), (10, iV (([k_ka, k_kb, k_kc] : List ByteArray).length : Int)), (11, iV (i1 : Int)), (12, bV (decide ((i1 : Int) < (([k_ka, k_kb, k_kc] : List ByteArray).length : Int))))] [true, true] rfl (subR rfl)
   refine Tn (Fs (wp_cond_true ((S.tm rfl).trans (congrArg Value.bool (rng_cons hd1 hi1))) (wp_skip (Tn (Fs ?_)))))
   obtain ⟨j2, hj2, h⟩ := joinE h
   refine f_join (fun a w' => ∃ x3 : List GKind, ∃ x4 : Int, ∃ φ3 : View, ∃ v2 : Value, ∃ rs2 : List R56, j2 x3 x4 = some r ∧ View.le φ2 φ3 ∧ All2 (rel_56 φ3) x3 rs2 ∧ Sx w [O] φ3 [.own v2 56 5 rs2.length (rs2.flatMap R56.enc), .blk O [U, iV x4] 25] [(0, .pointer (some ⟨O, 0, none⟩)), (3, v2), (9, (.slice (some ⟨b1, 0, none⟩) 3 3)), (10, iV (([k_ka, k_kb, k_kc] : List ByteArray).length : Int)), (11, iV (i1 : Int))] 49 a w') ?_ ?_
   ·refine wp_block (Fs (Fg ?_))
    obtain ⟨b2, o1, hm1, hr3⟩ := rn_indexT (a := a) (x := .tmp 9) (y := .tmp 11) (ty := 0) sl_51 (ownV_slcT enc_str hs1) (get_mid hd1 hi1) rfl (S.tm rfl) (S.tm rfl)
    refine lv S (hr3 _) rfl ?_;clear S;intro a S
    clear hr3
    refine lv S (rn_ld Tryz.isAgg9 (off := o1) (o := 0) (S.tm rfl) ((hm1.mono hl2).at S.emb) rfl) rfl ?_;clear S;intro a S
    refine lv S (Ra (S.tm rfl)) rfl ?_;clear S;intro a S
    refine Ld (Tn (Fs (Fs (Fg (lv S (Rm (S.tm rfl)) rfl ?_)))));clear S;intro a S
    obtain ⟨r1, hr4, h⟩ := bindE h
    refine l_enter1 1 S (b := O) rfl rfl (fun _ => .blk O [U, iV r1.2] 25) (fun _ => run_call (vs := [.pointer (some ⟨O, 0, none⟩), iV 6]) ⟨(S.tm rfl), rfl, trivial⟩ Tryz.call16) (Stream_Flip_ok _ O U Af (Ag.mono (S.le_arg (fp_sub (i := 1) (e := .blk O [U, iV x2] 25) rfl))) x2 (S.holds _ (List.mem_of_getElem? (i := 1) rfl)) 6 _ hr4) rfl (fun _ _ _ h => ⟨h.1, fun _ hc => by cases hc;rfl⟩) ?_;clear S;intro v3 a w5 hv1 hk2 hn1 S
    replace hv1 := hv1.2
    subst hv1
    refine Ld (Tn (f_cond (S.tm rfl) (fun hb1 => ?_) (fun hb1 => ?_)))
    ·replace h := iteT h hb1
     refine wp_exit (then_x (x_same (Tn ?_)))
     exact ⟨x1, r1.2, φ2, v1, rs1, h, (View.le_refl _), hr1, S.nf [true, true] rfl (subR rfl)⟩
    ·replace h := iteF h hb1
     refine wp_skip (Tn (Fs (Fg (lv S (Rm (S.tm rfl)) rfl ?_))));clear S;intro a S
     refine lv S (Rm (S.tm rfl)) rfl ?_;clear S;intro a S
     refine l_buildSlice S Tryz.underlying51 Tryz.sizeOf9 Tryz.zeroValue9 rfl rfl (pv := [(0, sV k_ra), (1, sV k_ra), (2, sV k_rb)]) ⟨rfl, rfl, rfl, rfl, rfl, rfl, trivial⟩ (cs := [sV k_ra, sV k_ra, sV k_rb]) (by kernel_rfl) rfl ?_;clear S;intro a w6 b3 hz2 hk3 S
     obtain ⟨r2, hr5, h⟩ := bindE h
     refine l_enter1 2 S (b := O) rfl rfl (fun _ => .blk O [U, iV r2.2] 25) (fun _ => run_call (vs := [.pointer (some ⟨O, 0, none⟩), .slice (some ⟨b3, 0, none⟩) 3 3]) ⟨(S.tm rfl), (S.tm rfl), trivial⟩ Tryz.call17) (Stream_Some_ok _ O U Af (Ag.mono (S.le_arg (fp_sub (i := 2) (e := .blk O [U, iV r1.2] 25) rfl))) r1.2 (S.holds _ (List.mem_of_getElem? (i := 2) rfl)) (.slice (some ⟨b3, 0, none⟩) 3 3) [k_ra, k_ra, k_rb] (lit_slcT enc_str S (i := 0) rfl rfl rfl rfl ((ne_fp (i := 2) (j := 0) (e := .blk O [U, iV r1.2] 25) (e' := .blk b3 [sV k_ra, sV k_ra, sV k_rb] 9) S rfl rfl rfl) _ rfl)) _ hr5) rfl (fun _ _ _ h => ⟨h.1, fun _ hc => by cases hc;rfl⟩) ?_;clear S;intro v4 a w7 hv2 hk4 hn2 S
     replace hv2 := hv2.2
     subst hv2
     refine lv S (Rm (S.tm rfl)) rfl ?_;clear S;intro a S
     refine l_buildSlice S Tryz.underlying22 Tryz.sizeOf3 Tryz.zeroValue3 rfl rfl (pv := [(0, iV 0), (1, iV 0), (2, iV 10)]) ⟨rfl, rfl, rfl, rfl, rfl, rfl, trivial⟩ (cs := [iV 0, iV 0, iV 10]) (by kernel_rfl) rfl ?_;clear S;intro a w8 b4 hz3 hk5 S
     obtain ⟨r3, hr6, h⟩ := bindE h
     refine l_enter1 3 S (b := O) rfl rfl (fun _ => .blk O [U, iV r3.2] 25) (fun _ => run_call (vs := [.pointer (some ⟨O, 0, none⟩), .slice (some ⟨b4, 0, none⟩) 3 3]) ⟨(S.tm rfl), (S.tm rfl), trivial⟩ Tryz.call18) (Stream_Pick_ok _ O U Af (Ag.mono (S.le_arg (fp_sub (i := 3) (e := .blk O [U, iV r2.2] 25) rfl))) r2.2 (S.holds _ (List.mem_of_getElem? (i := 3) rfl)) (.slice (some ⟨b4, 0, none⟩) 3 3) [0, 0, 10] (lit_slcT enc_int S (i := 0) rfl rfl rfl rfl ((ne_fp (i := 3) (j := 0) (e := .blk O [U, iV r2.2] 25) (e' := .blk b4 [iV 0, iV 0, iV 10] 3) S rfl rfl rfl) _ rfl)) _ hr6) rfl (fun _ _ _ h => ⟨h.1, fun _ hc => by cases hc;rfl⟩) ?_;clear S;intro v5 a w9 hv3 hk6 hn3 S
     replace hv3 := hv3.2
     subst hv3
     refine lv S (Rm (S.tm rfl)) rfl ?_;clear S;intro a S
     refine l_buildSlice S Tryz.underlying22 Tryz.sizeOf3 Tryz.zeroValue3 rfl rfl (pv := [(0, iV 14), (1, iV 99), (2, iV 150)]) ⟨rfl, rfl, rfl, rfl, rfl, rfl, trivial⟩ (cs := [iV 14, iV 99, iV 150]) (by kernel_rfl) rfl ?_;clear S;intro a w10 b5 hz4 hk7 S
     obtain ⟨r4, hr7, h⟩ := bindE h
     refine l_enter1 4 S (b := O) rfl rfl (fun _ => .blk O [U, iV r4.2] 25) (fun _ => run_call (vs := [.pointer (some ⟨O, 0, none⟩), .slice (some ⟨b5, 0, none⟩) 3 3]) ⟨(S.tm rfl), (S.tm rfl), trivial⟩ Tryz.call18) (Stream_Pick_ok _ O U Af (Ag.mono (S.le_arg (fp_sub (i := 4) (e := .blk O [U, iV r3.2] 25) rfl))) r3.2 (S.holds _ (List.mem_of_getElem? (i := 4) rfl)) (.slice (some ⟨b5, 0, none⟩) 3 3) [14, 99, 150] (lit_slcT enc_int S (i := 0) rfl rfl rfl rfl ((ne_fp (i := 4) (j := 0) (e := .blk O [U, iV r3.2] 25) (e' := .blk b5 [iV 14, iV 99, iV 150] 3) S rfl rfl rfl) _ rfl)) _ hr7) rfl (fun _ _ _ h => ⟨h.1, fun _ hc => by cases hc;rfl⟩) ?_;clear S;intro v6 a w11 hv4 hk8 hn4 S
     replace hv4 := hv4.2
     subst hv4
     refine lv S (rn_bld bt_56 (pv := [(0, sV y1), (1, sV r2.1), (3, iV r3.1), (4, iV r4.1)]) ⟨rfl, (S.tm rfl), rfl, (S.tm rfl), rfl, (S.tm rfl), rfl, (S.tm rfl), trivial⟩ (cs := [sV y1, sV r2.1, .slice none 0 0, iV r3.1, iV r4.1]) (by kernel_rfl)) rfl ?_;clear S;intro a S
     refine l_alloc S Tryz.zeroValue56 (cs := [sV k_empty, sV k_empty, .slice none 0 0, iV 0, iV 0]) rfl rfl ?_;clear S;intro a w12 b6 hz5 hk9 S
     replace S := S.nil 9 1
     refine l_store S (S.tm rfl) (S.tm rfl) (i := 1) (off := 0) rfl Tryz.sizeOf56 (vs := [sV y1, sV r2.1, .slice none 0 0, iV r3.1, iV r4.1]) rfl rfl rfl rfl ?_;clear S;intro w13 hk10 S
     replace S := S.nil 9 1
     refine Ld ?_
     replace S := S.nk [.own (.slice none 0 0) 9 1 ([] : List ByteArray).length (([] : List ByteArray).flatMap eStr), .blk b6 [sV y1, sV r2.1, (.slice none 0 0), iV r3.1, iV r4.1] 56, .own v1 56 5 rs1.length (rs1.flatMap R56.enc), .blk O [U, iV r4.2] 25] [(0, .pointer (some ⟨O, 0, none⟩)), (3, v1), (6, .pointer (some ⟨b6, 0, none⟩)), (9, (.slice (some ⟨b1, 0, none⟩) 3 3)), (10, iV (([k_ka, k_kb, k_kc] : List ByteArray).length : Int)), (11, iV (i1 : Int))] [true, false, true, false, false, false, true, true] rfl (subR rfl)
     refine Tn (Fs (Fs (Fg (l_buildSlice S Tryz.underlying51 Tryz.sizeOf9 Tryz.zeroValue9 rfl rfl (pv := [(0, sV k_blue), (1, sV k_red)]) ⟨rfl, rfl, rfl, rfl, trivial⟩ (cs := [sV k_blue, sV k_red]) (by kernel_rfl) rfl ?_))));clear S;intro a w14 b7 hz6 hk11 S
     refine lv S (rn_lenT sl_51 (S.tm rfl) ⟨_, _, rfl⟩) rfl ?_;clear S;intro a S
     refine lv S (Rm rfl) rfl ?_;clear S;intro a S
     refine Ld (Tn ?_)
     replace S := S.nk [.blk b7 [sV k_blue, sV k_red] 9, .own (.slice none 0 0) 9 1 ([] : List ByteArray).length (([] : List ByteArray).flatMap eStr), .blk b6 [sV y1, sV r2.1, (.slice none 0 0), iV r3.1, iV r4.1] 56, .own v1 56 5 rs1.length (rs1.flatMap R56.enc), .blk O [U, iV r4.2] 25] [(0, .pointer (some ⟨O, 0, none⟩)), (3, v1), (6, .pointer (some ⟨b6, 0, none⟩)), (9, (.slice (some ⟨b1, 0, none⟩) 3 3)), (10, iV (([k_ka, k_kb, k_kc] : List ByteArray).length : Int)), (11, iV (i1 : Int)), (28, .slice (some ⟨b7, 0, none⟩) 2 2), (29, iV (([k_blue, k_red] : List ByteArray).length : Int)), (30, iV 0)] [true, true, true, true, true] rfl (subR rfl)
     replace S := S.litOwn (i := 0) (xs := [k_blue, k_red]) rfl enc_str rfl rfl rfl
     replace S := S.nk [.own (.slice (some ⟨b7, 0, none⟩) 2 2) 9 1 ([k_blue, k_red] : List ByteArray).length (([k_blue, k_red] : List ByteArray).flatMap eStr), .own (.slice none 0 0) 9 1 ([] : List ByteArray).length (([] : List ByteArray).flatMap eStr), .blk b6 [sV y1, sV r2.1, (.slice none 0 0), iV r3.1, iV r4.1] 56, .own v1 56 5 rs1.length (rs1.flatMap R56.enc), .blk O [U, iV r4.2] 25] [(0, .pointer (some ⟨O, 0, none⟩)), (3, v1), (6, .pointer (some ⟨b6, 0, none⟩)), (9, (.slice (some ⟨b1, 0, none⟩) 3 3)), (10, iV (([k_ka, k_kb, k_kc] : List ByteArray).length : Int)), (11, iV (i1 : Int)), (28, (.slice (some ⟨b7, 0, none⟩) 2 2)), (29, iV (([k_blue, k_red] : List ByteArray).length : Int)), (30, iV 0)] [] rfl (subR rfl)
     obtain ⟨φ4, hl4, hs2, S⟩ := S.freezeT (xs := ([k_blue, k_red] : List ByteArray)) (enc := eStr) (i := 0) rfl (fun c hc hh => not_fps S (i := 4) rfl rfl (j := 0) rfl rfl (by simp at hc;subst hc;exact hh))
     replace S := S.nk [.own (.slice none 0 0) 9 1 ([] : List ByteArray).length (([] : List ByteArray).flatMap eStr), .blk b6 [sV y1, sV r2.1, (.slice none 0 0), iV r3.1, iV r4.1] 56, .own v1 56 5 rs1.length (rs1.flatMap R56.enc), .blk O [U, iV r4.2] 25] [(0, .pointer (some ⟨O, 0, none⟩)), (3, v1), (6, .pointer (some ⟨b6, 0, none⟩)), (9, (.slice (some ⟨b1, 0, none⟩) 3 3)), (10, iV (([k_ka, k_kb, k_kc] : List ByteArray).length : Int)), (11, iV (i1 : Int)), (28, (.slice (some ⟨b7, 0, none⟩) 2 2)), (29, iV (([k_blue, k_red] : List ByteArray).length : Int)), (30, iV 0)] [] rfl (subR rfl)
     obtain ⟨j3, hj3, h⟩ := joinE h
     refine f_join (fun a w' => ∃ x5 : List ByteArray, ∃ x6 : Int, ∃ v7 : Value, j3 x5 x6 = some r ∧ Sx w [O] φ4 [.own v7 9 1 x5.length (x5.flatMap eStr), .blk b6 [sV y1, sV r2.1, v7, iV r3.1, iV r4.1] 56, .own v1 56 5 rs1.length (rs1.flatMap R56.enc), .blk O [U, iV x6] 25] [(0, .pointer (some ⟨O, 0, none⟩)), (3, v1), (6, .pointer (some ⟨b6, 0, none⟩)), (9, (.slice (some ⟨b1, 0, none⟩) 3 3)), (10, iV (([k_ka, k_kb, k_kc] : List ByteArray).length : Int)), (11, iV (i1 : Int))] 49 a w') ?_ ?_
     ·refine wp_block (f_loop (fun (ys2 : List ByteArray) a w' => ∃ i2 : Nat, ∃ x5 : List ByteArray, ∃ x6 : Int, ∃ v7 : Value, (∃ dn, ([k_blue, k_red] : List ByteArray) = dn ++ ys2 ∧ dn.length = i2) ∧ Stream_RightKinds_l2 Af j3 ys2 i2 x5 x6 = some r ∧ Sx w [O] φ4 [.own v7 9 1 x5.length (x5.flatMap eStr), .blk b6 [sV y1, sV r2.1, v7, iV r3.1, iV r4.1] 56, .own v1 56 5 rs1.length (rs1.flatMap R56.enc), .blk O [U, iV x6] 25] [(0, .pointer (some ⟨O, 0, none⟩)), (3, v1), (6, .pointer (some ⟨b6, 0, none⟩)), (9, (.slice (some ⟨b1, 0, none⟩) 3 3)), (10, iV (([k_ka, k_kb, k_kc] : List ByteArray).length : Int)), (11, iV (i1 : Int)), (28, (.slice (some ⟨b7, 0, none⟩) 2 2)), (29, iV (([k_blue, k_red] : List ByteArray).length : Int)), (30, iV (i2 : Int))] 49 a w') List.length ([k_blue, k_red] : List ByteArray) ⟨0, ([] : List ByteArray), r4.2, (.slice none 0 0), ⟨[], rfl, rfl⟩, h, S.nf [true, true, true, true] rfl (subR rfl)⟩ ?_)
      clear S h;rintro ys2 a w15 ⟨i2, x5, x6, v7, ⟨dn, hd2, hi2⟩, h, S⟩
      cases ys2 with
      | nil =>
       rw [Stream_RightKinds_l2.eq_1] at h
       refine Fs (Fg (lv S (rn_lss (S.tm rfl) (S.tm rfl)) rfl ?_));clear S;intro a S
       refine Ld ?_
       replace S := S.nk [.own v7 9 1 x5.length (x5.flatMap eStr), .blk b6 [sV y1, sV r2.1, v7, iV r3.1, iV r4.1] 56, .own v1 56 5 rs1.length (rs1.flatMap R56.enc), .blk O [U, iV x6] 25] [(0, .pointer (some ⟨O, 0, none⟩)), (3, v1), (6, .pointer (some ⟨b6, 0, none⟩)), (9, (.slice (some ⟨b1, 0, none⟩) 3 3)), (10, iV (([k_ka, k_kb, k_kc] : List ByteArray).length : Int)), (11, iV (i1 : Int)), (28, (.slice (some ⟨b7, 0, none⟩) 2 2)), (29, iV (([k_blue, k_red] : List ByteArray).length : Int)), (30, iV (i2 : Int)), (31, bV (decide ((i2 : Int) < (([k_blue, k_red] : List ByteArray).length : Int))))] [true, true, true, true] rfl (subR rfl)
       refine Tn (Fs (wp_cond_false ((S.tm rfl).trans (congrArg Value.bool (rng_nil hd2 hi2))) (wp_exit (then_x (then_x (x_same ?_))))))
       refine Tn ?_
       exact ⟨x5, x6, v7, h, S.nf [true, true, true, true] rfl (subR rfl)⟩
      | cons y2 ys2 =>
       rw [Stream_RightKinds_l2.eq_2] at h
       refine Fs (Fg (lv S (rn_lss (S.tm rfl) (S.tm rfl)) rfl ?_));clear S;intro a S
       refine Ld ?_
       replace S := S.nk [.own v7 9 1 x5.length (x5.flatMap eStr), .blk b6 [sV y1, sV r2.1, v7, iV r3.1, iV r4.1] 56, .own v1 56 5 rs1.length (rs1.flatMap R56.enc), .blk O [U, iV x6] 25] [(0, .pointer (some ⟨O, 0, none⟩)), (3, v1), (6, .pointer (some ⟨b6, 0, none⟩)), (9, (.slice (some ⟨b1, 0, none⟩) 3 3)), (10, iV (([k_ka, k_kb, k_kc] : List ByteArray).length : Int)), (11, iV (i1 : Int)), (28, (.slice (some ⟨b7, 0, none⟩) 2 2)), (29, iV (([k_blue, k_red] : List ByteArray).length : Int)), (30, iV (i2 : Int)), (31, bV (decide ((i2 : Int) < (([k_blue, k_red] : List ByteArray).length : Int))))] [true, true, true, true] rfl (subR rfl)
       refine Tn (Fs (wp_cond_true ((S.tm rfl).trans (congrArg Value.bool (rng_cons hd2 hi2))) (wp_skip (Tn (Fs ?_)))))
       obtain ⟨j4, hj4, h⟩ := joinE h
       refine f_join (fun a w' => ∃ x7 : List ByteArray, ∃ x8 : Int, ∃ v8 : Value, j4 x7 x8 = some r ∧ Sx w [O] φ4 [.own v8 9 1 x7.length (x7.flatMap eStr), .blk b6 [sV y1, sV r2.1, v8, iV r3.1, iV r4.1] 56, .own v1 56 5 rs1.length (rs1.flatMap R56.enc), .blk O [U, iV x8] 25] [(0, .pointer (some ⟨O, 0, none⟩)), (3, v1), (6, .pointer (some ⟨b6, 0, none⟩)), (9, (.slice (some ⟨b1, 0, none⟩) 3 3)), (10, iV (([k_ka, k_kb, k_kc] : List ByteArray).length : Int)), (11, iV (i1 : Int)), (28, (.slice (some ⟨b7, 0, none⟩) 2 2)), (29, iV (([k_blue, k_red] : List ByteArray).length : Int)), (30, iV (i2 : Int))] 49 a w') ?_ ?_
       ·refine wp_block (Fs (Fg ?_))
        obtain ⟨b8, o2, hm2, hr8⟩ := rn_indexT (a := a) (x := .tmp 28) (y := .tmp 30) (ty := 0) sl_51 (ownV_slcT enc_str hs2) (get_mid hd2 hi2) rfl (S.tm rfl) (S.tm rfl)
        refine lv S (hr8 _) rfl ?_;clear S;intro a S
        clear hr8
        refine lv S (rn_ld Tryz.isAgg9 (off := o2) (o := 0) (S.tm rfl) (hm2.at S.emb) rfl) rfl ?_;clear S;intro a S
        refine lv S (Ra (S.tm rfl)) rfl ?_;clear S;intro a S
        refine Ld (Tn (Fs (Fg (lv S (Rm (S.tm rfl)) rfl ?_))));clear S;intro a S
        obtain ⟨r5, hr9, h⟩ := bindE h
        refine l_enter1 3 S (b := O) rfl rfl (fun _ => .blk O [U, iV r5.2] 25) (fun _ => run_call (vs := [.pointer (some ⟨O, 0, none⟩), iV 3]) ⟨(S.tm rfl), rfl, trivial⟩ Tryz.call16) (Stream_Flip_ok _ O U Af (Ag.mono (S.le_arg (fp_sub (i := 3) (e := .blk O [U, iV x6] 25) rfl))) x6 (S.holds _ (List.mem_of_getElem? (i := 3) rfl)) 3 _ hr9) rfl (fun _ _ _ h => ⟨h.1, fun _ hc => by cases hc;rfl⟩) ?_;clear S;intro v9 a w18 hv5 hk12 hn5 S
        replace hv5 := hv5.2
        subst hv5
        refine Ld ?_
        replace S := S.nk [.own v7 9 1 x5.length (x5.flatMap eStr), .blk b6 [sV y1, sV r2.1, v7, iV r3.1, iV r4.1] 56, .own v1 56 5 rs1.length (rs1.flatMap R56.enc), .blk O [U, iV r5.2] 25] [(0, .pointer (some ⟨O, 0, none⟩)), (3, v1), (6, .pointer (some ⟨b6, 0, none⟩)), (8, sV y2), (9, (.slice (some ⟨b1, 0, none⟩) 3 3)), (10, iV (([k_ka, k_kb, k_kc] : List ByteArray).length : Int)), (11, iV (i1 : Int)), (28, (.slice (some ⟨b7, 0, none⟩) 2 2)), (29, iV (([k_blue, k_red] : List ByteArray).length : Int)), (30, iV (i2 : Int)), (35, bV r5.1)] [true, true, true, true] rfl (subR rfl)
        refine Tn ?_
        obtain ⟨j5, hj5, h⟩ := joinE h
        refine f_join (fun a w' => ∃ x9 : List ByteArray, ∃ v10 : Value, j5 x9 = some r ∧ Sx w [O] φ4 [.own v10 9 1 x9.length (x9.flatMap eStr), .blk b6 [sV y1, sV r2.1, v10, iV r3.1, iV r4.1] 56, .own v1 56 5 rs1.length (rs1.flatMap R56.enc), .blk O [U, iV r5.2] 25] [(0, .pointer (some ⟨O, 0, none⟩)), (3, v1), (6, .pointer (some ⟨b6, 0, none⟩)), (9, (.slice (some ⟨b1, 0, none⟩) 3 3)), (10, iV (([k_ka, k_kb, k_kc] : List ByteArray).length : Int)), (11, iV (i1 : Int)), (28, (.slice (some ⟨b7, 0, none⟩) 2 2)), (29, iV (([k_blue, k_red] : List ByteArray).length : Int)), (30, iV (i2 : Int))] 49 a w') ?_ ?_
        ·refine f_cond (S.tm rfl) (fun hb2 => ?_) (fun hb2 => ?_)
         ·replace h := iteT h hb2
          refine Fg (lv S (rn_fld fa_56_2 (S.tm rfl)) rfl ?_);clear S;intro a S
          refine lv S (rn_load Tryz.isAgg51 (S.tm rfl) (S.cell (i := 1) rfl rfl)) rfl ?_;clear S;intro a S
          refine lv S (Rm (S.tm rfl)) rfl ?_;clear S;intro a S
          refine l_buildSlice S Tryz.underlying51 Tryz.sizeOf9 Tryz.zeroValue9 rfl rfl (pv := [(0, sV y2)]) ⟨rfl, (S.tm rfl), trivial⟩ (cs := [sV y2]) (by kernel_rfl) rfl ?_;clear S;intro a w20 b9 hz7 hk13 S
          obtain ⟨hc1, h⟩ := chkE h
          refine l_appendT sl_51 enc_str S (S.tm rfl) (i := 1) rfl (S.tm rfl) (j := 0) rfl (ys := [y2]) rfl rfl rfl rfl (by have := room_lt hc1;omega) rfl ?_;clear S;intro v11 a w21 hk14 S
          refine lv S (rn_fld fa_56_2 (S.tm rfl)) rfl ?_;clear S;intro a S
          refine l_store S (S.tm rfl) (S.tm rfl) (i := 2) (off := 2) rfl Tryz.sizeOf51 (vs := [v11]) (SlcLen.cells (own_len (S.own_at (i := 1) rfl))) rfl rfl (all1 (SlcLen.one (own_len (S.own_at (i := 1) rfl))) rfl) ?_;clear S;intro w22 hk15 S
          refine Ld ?_
          replace S := S.nk [.own v11 9 1 (x5 ++ [y2]).length ((x5 ++ [y2]).flatMap eStr), .blk b6 [sV y1, sV r2.1, v11, iV r3.1, iV r4.1] 56, .own v1 56 5 rs1.length (rs1.flatMap R56.enc), .blk O [U, iV r5.2] 25] [(0, .pointer (some ⟨O, 0, none⟩)), (3, v1), (6, .pointer (some ⟨b6, 0, none⟩)), (9, (.slice (some ⟨b1, 0, none⟩) 3 3)), (10, iV (([k_ka, k_kb, k_kc] : List ByteArray).length : Int)), (11, iV (i1 : Int)), (28, (.slice (some ⟨b7, 0, none⟩) 2 2)), (29, iV (([k_blue, k_red] : List ByteArray).length : Int)), (30, iV (i2 : Int))] [false, true, true, true, true] rfl (subR rfl)
          refine Tn ?_
          exact ⟨(x5 ++ [y2]), v11, h, S.nf [true, true, true, true] rfl (subR rfl)⟩
         ·replace h := iteF h hb2
          refine wp_skip (Tn ?_)
          exact ⟨x5, v7, h, S.nf [true, true, true, true] rfl (subR rfl)⟩
        clear S h;rintro a w19 ⟨x9, v10, h, S⟩;rw [hj5] at h;clear hj5 j5
        refine blk_n (Tn ?_)
        exact ⟨x9, r5.2, v10, h, S.nf [true, true, true, true] rfl (subR rfl)⟩
       clear S h;rintro a w17 ⟨x7, x8, v8, h, S⟩;rw [hj4] at h;clear hj4 j4
       refine Tn (Fg (lv S (rn_add (S.tm rfl) rfl) rfl ?_));clear S;intro a S
       refine lv S (Rm (S.tm rfl)) rfl ?_;clear S;intro a S
       refine Ld (Tn ?_)
       exact ⟨ys2, ⟨i2 + 1, x7, x8, v8, ⟨_, (hd2).trans (List.append_cons _ _ _), by simp [hi2]⟩, h, S.nf [true, true, true, true] rfl ⟨rfl, rfl, rfl, rfl, rfl, rfl, rfl, rfl, (congrArg (fun z => some (Value.int .i64 z)) (rng_next hd2 hi2 (slc_max (ownV_slcT enc_str hs2)))), trivial⟩⟩, Nat.lt_succ_self _⟩
     clear S h;rintro a w16 ⟨x5, x6, v7, h, S⟩;rw [hj3] at h;clear hj3 j3
     refine Tn (Fg (lv S (Rm (S.tm rfl)) rfl ?_));clear S;intro a S
     refine lv S (rn_ldA Tryz.isAgg56 Tryz.sizeOf56 (off := 0) (o := 0) (part := [sV y1, sV r2.1, v7, iV r3.1, iV r4.1]) rfl rfl (S.tm rfl) (S.cellsAt (i := 1) rfl)) rfl ?_;clear S;intro a S
     refine l_buildSlice S Tryz.underlying26 Tryz.sizeOf56 Tryz.zeroValue56 rfl rfl (pv := [(0, .agg #[sV y1, sV r2.1, v7, iV r3.1, iV r4.1])]) ⟨rfl, (S.tm rfl), trivial⟩ (cs := [sV y1, sV r2.1, v7, iV r3.1, iV r4.1]) (by kernel_rfl) rfl ?_;clear S;intro a w23 b10 hz8 hk16 S
     obtain ⟨φ5, hl5, hs3, S⟩ := S.freezeT (xs := x5) (enc := eStr) (i := 1) rfl (fun c hc hh => not_fps S (i := 4) rfl rfl (j := 1) rfl rfl (by simp at hc;subst hc;exact hh))
     replace S := S.nk [.blk b10 [sV y1, sV r2.1, v7, iV r3.1, iV r4.1] 56, .blk b6 [sV y1, sV r2.1, v7, iV r3.1, iV r4.1] 56, .own v1 56 5 rs1.length (rs1.flatMap R56.enc), .blk O [U, iV x6] 25] [(0, .pointer (some ⟨O, 0, none⟩)), (3, v1), (6, .pointer (some ⟨b6, 0, none⟩)), (9, (.slice (some ⟨b1, 0, none⟩) 3 3)), (10, iV (([k_ka, k_kb, k_kc] : List ByteArray).length : Int)), (11, iV (i1 : Int)), (43, v1), (44, .agg #[sV y1, sV r2.1, v7, iV r3.1, iV r4.1]), (45, .slice (some ⟨b10, 0, none⟩) 1 1)] [] rfl (subR rfl)
     obtain ⟨hc2, h⟩ := chkE h
     have hr10 : All2 (rel_56 φ5) (x1 ++ [(GKind.mk y1 r2.1 x5 r3.1 r4.1)]) (rs1 ++ [(R56.mk y1 r2.1 ⟨v7, SlcLen.one (slc_len (ownV_slcT enc_str hs3))⟩ r3.1 r4.1)]) := All2.app (rels_56 (View.le_trans hl4 hl5) hr1) (All2.cons ⟨⟨v7, SlcLen.one (slc_len (ownV_slcT enc_str hs3))⟩, rfl, (ownV_slcT enc_str hs3)⟩ All2.nil)
     refine l_appendT sl_26 R56.enc_ok S (S.tm rfl) (i := 2) rfl (S.tm rfl) (j := 0) rfl (ys := [(R56.mk y1 r2.1 ⟨v7, SlcLen.one (slc_len (ownV_slcT enc_str hs3))⟩ r3.1 r4.1)]) rfl rfl rfl rfl (by have := room_lt hc2;have := All2.len (rels_56 (View.le_trans hl4 hl5) hr1);simp at this ⊢;omega) rfl ?_;clear S;intro v12 a w24 hk17 S
     refine lv S (Ra (S.tm rfl)) rfl ?_;clear S;intro a S
     refine Ld (blk_n (Tn ?_))
     exact ⟨(x1 ++ [(GKind.mk y1 r2.1 x5 r3.1 r4.1)]), x6, φ5, v12, (rs1 ++ [(R56.mk y1 r2.1 ⟨v7, SlcLen.one (slc_len (ownV_slcT enc_str hs3))⟩ r3.1 r4.1)]), h, (View.le_trans hl4 hl5), hr10, S.nf [false, false, true, true] rfl (subR rfl)⟩
   clear S h;rintro a w4 ⟨x3, x4, φ3, v2, rs2, h, hl3, hr2, S⟩;rw [hj2] at h;clear hj2 j2
   refine Tn (Fg (lv S (rn_add (S.tm rfl) rfl) rfl ?_));clear S;intro a S
   refine lv S (Rm (S.tm rfl)) rfl ?_;clear S;intro a S
   refine Ld (Tn ?_)
   exact ⟨ys1, ⟨i1 + 1, x3, x4, φ3, v2, rs2, ⟨_, (hd1).trans (List.append_cons _ _ _), by simp [hi1]⟩, h, (View.le_trans hl2 hl3), hr2, S.nf [true, true] rfl ⟨rfl, rfl, rfl, rfl, (congrArg (fun z => some (Value.int .i64 z)) (rng_next hd1 hi1 (slc_max (ownV_slcT enc_str hs1)))), trivial⟩⟩, Nat.lt_succ_self _⟩
 clear S h;rintro a w3 ⟨x1, x2, φ2, v1, rs1, h, hl2, hr1, S⟩;rw [hj1] at h;clear hj1 j1
 refine Tn (Fs (Fg (lv S (Rm (S.tm rfl)) rfl ?_)));clear S;intro a S
 refine lv S (Ra (S.tm rfl)) rfl ?_;clear S;intro a S
 refine Ld (Tn (wp_ret ?_))
 obtain rfl := Option.some.inj h
 exact f_ret S Tryz.results4 rfl ⟨(S.holds _ (List.mem_of_getElem? (i := 1) rfl)), ⟨_, (own_retX S (i := 0) rfl (fun c hc hh => not_fps S (i := 1) rfl rfl (j := 0) rfl rfl (by simp at hc;subst hc;exact hh))), rels_56 (S.le_hide (i := 0) rfl) hr1⟩⟩
theorem Stream_Range_ok (w : World) (O : Nat) (U : Value) (Af : List Int) (Ag : Slc (view w [O]) 1 U (Af.map eInt)) (Ad : Int) (Aw : (LEnt.blk O [U, iV Ad] 25).holds w) (Ay : Int) (Av : Int) (r : Int × Int) (h : Stream_Range Af Ad Ay Av = some r) :
    Calls Tryz.prog 6 [.pointer (some ⟨O, 0, none⟩), iV Ay, iV Av].toArray w (Ret w [O] fun _ v w' => (LEnt.blk O [U, iV r.2] 25).holds w' ∧ v = iV r.1) := by
 refine f_enter [O] [.blk O [U, iV Ad] 25] Tryz.func6 rfl Tryz.ntmps6 rfl (fun e he => by simp only [List.mem_singleton] at he;subst he;exact Aw) (by simp [fps, LEnt.fp]) (by simp [fps, LEnt.fp]) fun a S => ?_
 unfold Stream_Range at h
 replace S := S.nk [.blk O [U, iV Ad] 25] [(0, .pointer (some ⟨O, 0, none⟩)), (1, iV Ay), (2, iV Av)] [true] rfl (subR rfl)
 refine Fs (Fg (lv S (Ra rfl) rfl ?_));clear S;intro a S
 refine Ld (Tn (Fs (Fs (Fg (lv S (Rm (S.tm rfl)) rfl ?_)))));clear S;intro a S
 refine lv S (Rm (S.tm rfl)) rfl ?_;clear S;intro a S
 refine lv S (rn_lss (S.tm rfl) (S.tm rfl)) rfl ?_;clear S;intro a S
 refine Ld (Tn (f_cond (S.tm rfl) (fun hb1 => ?_) (fun hb1 => ?_)))
 ·replace h := iteT h hb1
  refine Fs (Fg (lv S (Rm (S.tm rfl)) rfl ?_));clear S;intro a S
  refine lv S (Ra (S.tm rfl)) rfl ?_;clear S;intro a S
  refine Ld (Tn (wp_ret (then_r ?_)))
  obtain rfl := Option.some.inj h
  exact f_ret S Tryz.results6 rfl ⟨(S.holds _ (List.mem_of_getElem? (i := 0) rfl)), rfl⟩
 ·replace h := iteF h hb1
  refine wp_skip (Tn (Fs (Fg (lv S (Rm (S.tm rfl)) rfl ?_))));clear S;intro a S
  iterate 3 (refine lv S (Rm (S.tm rfl)) rfl ?_;clear S;intro a S)
  refine lv S (rn_sub (S.tm rfl) (S.tm rfl)) rfl ?_;clear S;intro a S
  refine lv S (rn_add (S.tm rfl) rfl) rfl ?_;clear S;intro a S
  obtain ⟨r1, hr1, h⟩ := bindE h
  refine l_enter1 0 S (b := O) rfl rfl (fun _ => .blk O [U, iV r1.2] 25) (fun _ => run_call (vs := [.pointer (some ⟨O, 0, none⟩), iV (W ((W (Av - Ay)) + 1))]) ⟨(S.tm rfl), (S.tm rfl), trivial⟩ Tryz.call21) (Stream_Next_ok _ O U Af (Ag.mono (S.le_arg (fp_sub (i := 0) (e := .blk O [U, iV Ad] 25) rfl))) Ad (S.holds _ (List.mem_of_getElem? (i := 0) rfl)) (W ((W (Av - Ay)) + 1)) _ hr1) rfl (fun _ _ _ h => ⟨h.1, fun _ hc => by cases hc;rfl⟩) ?_;clear S;intro v1 a w1 hv1 hk1 hn1 S
  replace hv1 := hv1.2
  subst hv1
  refine lv S (rn_add (S.tm rfl) (S.tm rfl)) rfl ?_;clear S;intro a S
  refine lv S (Ra (S.tm rfl)) rfl ?_;clear S;intro a S
  refine Ld ?_
  replace S := S.nk [.blk O [U, iV r1.2] 25] [(6, iV (W (Ay + r1.1)))] [true] rfl ⟨rfl, trivial⟩
  refine Tn (wp_ret ?_)
  obtain rfl := Option.some.inj h
  exact f_ret S Tryz.results6 rfl ⟨(S.holds _ (List.mem_of_getElem? (i := 0) rfl)), rfl⟩
theorem Stream_SwumStep_ok (w : World) (O : Nat) (U : Value) (Af : List Int) (Ag : Slc (view w [O]) 1 U (Af.map eInt)) (Ad : Int) (Aw : (LEnt.blk O [U, iV Ad] 25).holds w) (Aq : Int) (r : GStep × Int) (h : Stream_SwumStep Af Ad Aq = some r) :
    Calls Tryz.prog 36 [.pointer (some ⟨O, 0, none⟩), iV Aq].toArray w (Ret w [O] fun _ v w' => (LEnt.blk O [U, iV r.2] 25).holds w' ∧ v = .agg (GStep.enc r.1).toArray) := by
 refine f_enter [O] [.blk O [U, iV Ad] 25] Tryz.func36 rfl Tryz.ntmps36 rfl (fun e he => by simp only [List.mem_singleton] at he;subst he;exact Aw) (by simp [fps, LEnt.fp]) (by simp [fps, LEnt.fp]) fun a S => ?_
 unfold Stream_SwumStep at h
 replace S := S.nk [.blk O [U, iV Ad] 25] [(0, .pointer (some ⟨O, 0, none⟩)), (1, iV Aq)] [true] rfl (subR rfl)
 refine Fs (Fg (l_alloc S Tryz.zeroValue35 (cs := [iV 0, iV 0, sV k_empty, sV k_empty, sV k_empty, sV k_empty, iV 0, iV 0]) rfl rfl ?_));clear S;intro a w1 b1 hz1 hk1 S
 refine Ld (Tn (Fs (Fg (lv S (Rm (S.tm rfl)) rfl ?_))));clear S;intro a S
 refine lv S (Rm (S.tm rfl)) rfl ?_;clear S;intro a S
 refine l_buildSlice S Tryz.underlying51 Tryz.sizeOf9 Tryz.zeroValue9 rfl rfl (pv := [(0, sV k_ia), (1, sV k_ib), (2, sV k_ic), (3, sV k_id), (4, sV k_ie), (5, sV k_if)]) ⟨rfl, rfl, rfl, rfl, rfl, rfl, rfl, rfl, rfl, rfl, rfl, rfl, trivial⟩ (cs := [sV k_ia, sV k_ib, sV k_ic, sV k_id, sV k_ie, sV k_if]) (by kernel_rfl) rfl ?_;clear S;intro a w2 b2 hz2 hk2 S
 obtain ⟨r1, hr1, h⟩ := bindE h
 refine l_enter1 2 S (b := O) rfl rfl (fun _ => .blk O [U, iV r1.2] 25) (fun _ => run_call (vs := [.pointer (some ⟨O, 0, none⟩), .slice (some ⟨b2, 0, none⟩) 6 6]) ⟨(S.tm rfl), (S.tm rfl), trivial⟩ Tryz.call17) (Stream_Some_ok _ O U Af (Ag.mono (S.le_arg (fp_sub (i := 2) (e := .blk O [U, iV Ad] 25) rfl))) Ad (S.holds _ (List.mem_of_getElem? (i := 2) rfl)) (.slice (some ⟨b2, 0, none⟩) 6 6) [k_ia, k_ib, k_ic, k_id, k_ie, k_if] (lit_slcT enc_str S (i := 0) rfl rfl rfl rfl ((ne_fp (i := 2) (j := 0) (e := .blk O [U, iV Ad] 25) (e' := .blk b2 [sV k_ia, sV k_ib, sV k_ic, sV k_id, sV k_ie, sV k_if] 9) S rfl rfl rfl) _ rfl)) _ hr1) rfl (fun _ _ _ h => ⟨h.1, fun _ hc => by cases hc;rfl⟩) ?_;clear S;intro v1 a w3 hv1 hk3 hn1 S
 replace hv1 := hv1.2
 subst hv1
 refine lv S (Rm (S.tm rfl)) rfl ?_;clear S;intro a S
 refine l_buildSlice S Tryz.underlying51 Tryz.sizeOf9 Tryz.zeroValue9 rfl rfl (pv := [(0, sV k_ann), (1, sV k_bea)]) ⟨rfl, rfl, rfl, rfl, trivial⟩ (cs := [sV k_ann, sV k_bea]) (by kernel_rfl) rfl ?_;clear S;intro a w4 b3 hz3 hk4 S
 obtain ⟨r2, hr2, h⟩ := bindE h
 refine l_enter1 3 S (b := O) rfl rfl (fun _ => .blk O [U, iV r2.2] 25) (fun _ => run_call (vs := [.pointer (some ⟨O, 0, none⟩), .slice (some ⟨b3, 0, none⟩) 2 2]) ⟨(S.tm rfl), (S.tm rfl), trivial⟩ Tryz.call17) (Stream_Some_ok _ O U Af (Ag.mono (S.le_arg (fp_sub (i := 3) (e := .blk O [U, iV r1.2] 25) rfl))) r1.2 (S.holds _ (List.mem_of_getElem? (i := 3) rfl)) (.slice (some ⟨b3, 0, none⟩) 2 2) [k_ann, k_bea] (lit_slcT enc_str S (i := 0) rfl rfl rfl rfl ((ne_fp (i := 3) (j := 0) (e := .blk O [U, iV r1.2] 25) (e' := .blk b3 [sV k_ann, sV k_bea] 9) S rfl rfl rfl) _ rfl)) _ hr2) rfl (fun _ _ _ h => ⟨h.1, fun _ hc => by cases hc;rfl⟩) ?_;clear S;intro v2 a w5 hv2 hk5 hn2 S
 replace hv2 := hv2.2
 subst hv2
 refine lv S (Rm (S.tm rfl)) rfl ?_;clear S;intro a S
 refine l_buildSlice S Tryz.underlying51 Tryz.sizeOf9 Tryz.zeroValue9 rfl rfl (pv := [(0, sV k_blue), (1, sV k_red), (2, sV k_empty)]) ⟨rfl, rfl, rfl, rfl, rfl, rfl, trivial⟩ (cs := [sV k_blue, sV k_red, sV k_empty]) (by kernel_rfl) rfl ?_;clear S;intro a w6 b4 hz4 hk6 S
 obtain ⟨r3, hr3, h⟩ := bindE h
 refine l_enter1 4 S (b := O) rfl rfl (fun _ => .blk O [U, iV r3.2] 25) (fun _ => run_call (vs := [.pointer (some ⟨O, 0, none⟩), .slice (some ⟨b4, 0, none⟩) 3 3]) ⟨(S.tm rfl), (S.tm rfl), trivial⟩ Tryz.call17) (Stream_Some_ok _ O U Af (Ag.mono (S.le_arg (fp_sub (i := 4) (e := .blk O [U, iV r2.2] 25) rfl))) r2.2 (S.holds _ (List.mem_of_getElem? (i := 4) rfl)) (.slice (some ⟨b4, 0, none⟩) 3 3) [k_blue, k_red, k_empty] (lit_slcT enc_str S (i := 0) rfl rfl rfl rfl ((ne_fp (i := 4) (j := 0) (e := .blk O [U, iV r2.2] 25) (e' := .blk b4 [sV k_blue, sV k_red, sV k_empty] 9) S rfl rfl rfl) _ rfl)) _ hr3) rfl (fun _ _ _ h => ⟨h.1, fun _ hc => by cases hc;rfl⟩) ?_;clear S;intro v3 a w7 hv3 hk7 hn3 S
 replace hv3 := hv3.2
 subst hv3
 refine lv S (Rm (S.tm rfl)) rfl ?_;clear S;intro a S
 refine l_buildSlice S Tryz.underlying51 Tryz.sizeOf9 Tryz.zeroValue9 rfl rfl (pv := [(0, sV k_ra), (1, sV k_ra), (2, sV k_rb)]) ⟨rfl, rfl, rfl, rfl, rfl, rfl, trivial⟩ (cs := [sV k_ra, sV k_ra, sV k_rb]) (by kernel_rfl) rfl ?_;clear S;intro a w8 b5 hz5 hk8 S
 obtain ⟨r4, hr4, h⟩ := bindE h
 refine l_enter1 5 S (b := O) rfl rfl (fun _ => .blk O [U, iV r4.2] 25) (fun _ => run_call (vs := [.pointer (some ⟨O, 0, none⟩), .slice (some ⟨b5, 0, none⟩) 3 3]) ⟨(S.tm rfl), (S.tm rfl), trivial⟩ Tryz.call17) (Stream_Some_ok _ O U Af (Ag.mono (S.le_arg (fp_sub (i := 5) (e := .blk O [U, iV r3.2] 25) rfl))) r3.2 (S.holds _ (List.mem_of_getElem? (i := 5) rfl)) (.slice (some ⟨b5, 0, none⟩) 3 3) [k_ra, k_ra, k_rb] (lit_slcT enc_str S (i := 0) rfl rfl rfl rfl ((ne_fp (i := 5) (j := 0) (e := .blk O [U, iV r3.2] 25) (e' := .blk b5 [sV k_ra, sV k_ra, sV k_rb] 9) S rfl rfl rfl) _ rfl)) _ hr4) rfl (fun _ _ _ h => ⟨h.1, fun _ hc => by cases hc;rfl⟩) ?_;clear S;intro v4 a w9 hv4 hk9 hn4 S
 replace hv4 := hv4.2
 subst hv4
 refine lv S (Rm (S.tm rfl)) rfl ?_;clear S;intro a S
 refine l_buildSlice S Tryz.underlying22 Tryz.sizeOf3 Tryz.zeroValue3 rfl rfl (pv := [(0, iV 9), (1, iV 10), (2, iV 14), (3, iV 15), (4, iV 20)]) ⟨rfl, rfl, rfl, rfl, rfl, rfl, rfl, rfl, rfl, rfl, trivial⟩ (cs := [iV 9, iV 10, iV 14, iV 15, iV 20]) (by kernel_rfl) rfl ?_;clear S;intro a w10 b6 hz6 hk10 S
 obtain ⟨r5, hr5, h⟩ := bindE h
 refine l_enter1 6 S (b := O) rfl rfl (fun _ => .blk O [U, iV r5.2] 25) (fun _ => run_call (vs := [.pointer (some ⟨O, 0, none⟩), .slice (some ⟨b6, 0, none⟩) 5 5]) ⟨(S.tm rfl), (S.tm rfl), trivial⟩ Tryz.call18) (Stream_Pick_ok _ O U Af (Ag.mono (S.le_arg (fp_sub (i := 6) (e := .blk O [U, iV r4.2] 25) rfl))) r4.2 (S.holds _ (List.mem_of_getElem? (i := 6) rfl)) (.slice (some ⟨b6, 0, none⟩) 5 5) [9, 10, 14, 15, 20] (lit_slcT enc_int S (i := 0) rfl rfl rfl rfl ((ne_fp (i := 6) (j := 0) (e := .blk O [U, iV r4.2] 25) (e' := .blk b6 [iV 9, iV 10, iV 14, iV 15, iV 20] 3) S rfl rfl rfl) _ rfl)) _ hr5) rfl (fun _ _ _ h => ⟨h.1, fun _ hc => by cases hc;rfl⟩) ?_;clear S;intro v5 a w11 hv5 hk11 hn5 S
 replace hv5 := hv5.2
 subst hv5
 refine lv S (Rm (S.tm rfl)) rfl ?_;clear S;intro a S
 refine l_buildSlice S Tryz.underlying22 Tryz.sizeOf3 Tryz.zeroValue3 rfl rfl (pv := [(0, iV 95), (1, iV 96), (2, iV 97), (3, iV 100), (4, iV 1), (5, iV 2)]) ⟨rfl, rfl, rfl, rfl, rfl, rfl, rfl, rfl, rfl, rfl, rfl, rfl, trivial⟩ (cs := [iV 95, iV 96, iV 97, iV 100, iV 1, iV 2]) (by kernel_rfl) rfl ?_;clear S;intro a w12 b7 hz7 hk12 S
 obtain ⟨r6, hr6, h⟩ := bindE h
 refine l_enter1 7 S (b := O) rfl rfl (fun _ => .blk O [U, iV r6.2] 25) (fun _ => run_call (vs := [.pointer (some ⟨O, 0, none⟩), .slice (some ⟨b7, 0, none⟩) 6 6]) ⟨(S.tm rfl), (S.tm rfl), trivial⟩ Tryz.call18) (Stream_Pick_ok _ O U Af (Ag.mono (S.le_arg (fp_sub (i := 7) (e := .blk O [U, iV r5.2] 25) rfl))) r5.2 (S.holds _ (List.mem_of_getElem? (i := 7) rfl)) (.slice (some ⟨b7, 0, none⟩) 6 6) [95, 96, 97, 100, 1, 2] (lit_slcT enc_int S (i := 0) rfl rfl rfl rfl ((ne_fp (i := 7) (j := 0) (e := .blk O [U, iV r5.2] 25) (e' := .blk b7 [iV 95, iV 96, iV 97, iV 100, iV 1, iV 2] 3) S rfl rfl rfl) _ rfl)) _ hr6) rfl (fun _ _ _ h => ⟨h.1, fun _ hc => by cases hc;rfl⟩) ?_;clear S;intro v6 a w13 hv6 hk13 hn6 S
 replace hv6 := hv6.2
 subst hv6
 refine lv S (rn_bld bt_35 (pv := [(0, iV Aq), (1, iV 1), (2, sV r1.1), (3, sV r2.1), (4, sV r3.1), (5, sV r4.1), (6, iV r5.1), (7, iV r6.1)]) ⟨rfl, (S.tm rfl), rfl, rfl, rfl, (S.tm rfl), rfl, (S.tm rfl), rfl, (S.tm rfl), rfl, (S.tm rfl), rfl, (S.tm rfl), rfl, (S.tm rfl), trivial⟩ (cs := [iV Aq, iV 1, sV r1.1, sV r2.1, sV r3.1, sV r4.1, iV r5.1, iV r6.1]) (by kernel_rfl)) rfl ?_;clear S;intro a S
 refine l_store S (S.tm rfl) (S.tm rfl) (i := 6) (off := 0) rfl Tryz.sizeOf35 (vs := (GStep.enc (GStep.mk Aq 1 r1.1 r2.1 r3.1 r4.1 r5.1 r6.1))) rfl rfl rfl rfl ?_;clear S;intro w14 hk14 S
 refine Ld ?_
 replace S := S.nk [.blk b1 (GStep.enc (GStep.mk Aq 1 r1.1 r2.1 r3.1 r4.1 r5.1 r6.1)) 35, .blk O [U, iV r6.2] 25] [(4, .pointer (some ⟨b1, 0, none⟩))] [false, false, false, false, false, false, true, true] rfl ⟨rfl, trivial⟩
 refine Tn (wp_ret ?_)
 obtain rfl := Option.some.inj h
 exact f_retG S (rs := [.cell 4 35]) (vs := [.agg (GStep.enc (GStep.mk Aq 1 r1.1 r2.1 r3.1 r4.1 r5.1 r6.1)).toArray]) Tryz.results36 ⟨(res_cell (off := 0) S rfl Tryz.isAgg35 Tryz.sizeOf35 rfl (S.cellsAt (i := 0) rfl)), trivial⟩ rfl ⟨(S.holds _ (List.mem_of_getElem? (i := 1) rfl)), rfl⟩
theorem Stream_Odd_ok (w : World) (O : Nat) (U : Value) (Af : List Int) (Ag : Slc (view w [O]) 1 U (Af.map eInt)) (Ad : Int) (Aw : (LEnt.blk O [U, iV Ad] 25).holds w) (Ay : Int) (Av : Int) (r : Int × Int) (h : Stream_Odd Af Ad Ay Av = some r) :
    Calls Tryz.prog 37 [.pointer (some ⟨O, 0, none⟩), iV Ay, iV Av].toArray w (Ret w [O] fun _ v w' => (LEnt.blk O [U, iV r.2] 25).holds w' ∧ v = iV r.1) := by
 refine f_enter [O] [.blk O [U, iV Ad] 25] Tryz.func37 rfl Tryz.ntmps37 rfl (fun e he => by simp only [List.mem_singleton] at he;subst he;exact Aw) (by simp [fps, LEnt.fp]) (by simp [fps, LEnt.fp]) fun a S => ?_
 unfold Stream_Odd at h
 replace S := S.nk [.blk O [U, iV Ad] 25] [(0, .pointer (some ⟨O, 0, none⟩)), (1, iV Ay), (2, iV Av)] [true] rfl (subR rfl)
 refine Fs (Fg (lv S (Ra rfl) rfl ?_));clear S;intro a S
 refine Ld (Tn (Fs (Fs (Fg (lv S (Rm (S.tm rfl)) rfl ?_)))));clear S;intro a S
 obtain ⟨r1, hr1, h⟩ := bindE h
 refine l_enter1 0 S (b := O) rfl rfl (fun _ => .blk O [U, iV r1.2] 25) (fun _ => run_call (vs := [.pointer (some ⟨O, 0, none⟩), iV 12]) ⟨(S.tm rfl), rfl, trivial⟩ Tryz.call16) (Stream_Flip_ok _ O U Af (Ag.mono (S.le_arg (fp_sub (i := 0) (e := .blk O [U, iV Ad] 25) rfl))) Ad (S.holds _ (List.mem_of_getElem? (i := 0) rfl)) 12 _ hr1) rfl (fun _ _ _ h => ⟨h.1, fun _ hc => by cases hc;rfl⟩) ?_;clear S;intro v1 a w1 hv1 hk1 hn1 S
 replace hv1 := hv1.2
 subst hv1
 refine Ld (Tn (f_cond (S.tm rfl) (fun hb1 => ?_) (fun hb1 => ?_)))
 ·replace h := iteT h hb1
  refine Fs (Fg (lv S (Rm (S.tm rfl)) rfl ?_));clear S;intro a S
  refine lv S (Rm (S.tm rfl)) rfl ?_;clear S;intro a S
  refine lv S (rn_sub (S.tm rfl) rfl) rfl ?_;clear S;intro a S
  refine lv S (Rm (S.tm rfl)) rfl ?_;clear S;intro a S
  refine lv S (rn_add (S.tm rfl) rfl) rfl ?_;clear S;intro a S
  refine lv S (Rm (S.tm rfl)) rfl ?_;clear S;intro a S
  refine lv S (Rm (S.tm rfl)) rfl ?_;clear S;intro a S
  refine l_buildSlice S Tryz.underlying22 Tryz.sizeOf3 Tryz.zeroValue3 rfl rfl (pv := [(0, iV (W (Ay - 1))), (1, iV (W (Av + 1))), (2, iV Ay), (3, iV Av), (4, iV (-1099511627776)), (5, iV 1099511627776)]) ⟨rfl, (S.tm rfl), rfl, (S.tm rfl), rfl, (S.tm rfl), rfl, (S.tm rfl), rfl, rfl, rfl, rfl, trivial⟩ (cs := [iV (W (Ay - 1)), iV (W (Av + 1)), iV Ay, iV Av, iV (-1099511627776), iV 1099511627776]) (by kernel_rfl) rfl ?_;clear S;intro a w2 b1 hz1 hk2 S
  obtain ⟨r2, hr2, h⟩ := bindE h
  refine l_enter1 1 S (b := O) rfl rfl (fun _ => .blk O [U, iV r2.2] 25) (fun _ => run_call (vs := [.pointer (some ⟨O, 0, none⟩), .slice (some ⟨b1, 0, none⟩) 6 6]) ⟨(S.tm rfl), (S.tm rfl), trivial⟩ Tryz.call18) (Stream_Pick_ok _ O U Af (Ag.mono (S.le_arg (fp_sub (i := 1) (e := .blk O [U, iV r1.2] 25) rfl))) r1.2 (S.holds _ (List.mem_of_getElem? (i := 1) rfl)) (.slice (some ⟨b1, 0, none⟩) 6 6) [W (Ay - 1), W (Av + 1), Ay, Av, (-1099511627776), 1099511627776] (lit_slcT enc_int S (i := 0) rfl rfl rfl rfl ((ne_fp (i := 1) (j := 0) (e := .blk O [U, iV r1.2] 25) (e' := .blk b1 [iV (W (Ay - 1)), iV (W (Av + 1)), iV Ay, iV Av, iV (-1099511627776), iV 1099511627776] 3) S rfl rfl rfl) _ rfl)) _ hr2) rfl (fun _ _ _ h => ⟨h.1, fun _ hc => by cases hc;rfl⟩) ?_;clear S;intro v2 a w3 hv2 hk3 hn2 S
  replace hv2 := hv2.2
  subst hv2
  refine lv S (Ra (S.tm rfl)) rfl ?_;clear S;intro a S
  refine Ld ?_
  replace S := S.nk [.blk O [U, iV r2.2] 25] [(6, iV r2.1)] [false, true] rfl ⟨rfl, trivial⟩
  refine Tn (wp_ret (then_r ?_))
  obtain rfl := Option.some.inj h
  exact f_ret S Tryz.results37 rfl ⟨(S.holds _ (List.mem_of_getElem? (i := 0) rfl)), rfl⟩
 ·replace h := iteF h hb1
  refine wp_skip (Tn (Fs (Fg (lv S (Rm (S.tm rfl)) rfl ?_))));clear S;intro a S
  refine lv S (Rm (S.tm rfl)) rfl ?_;clear S;intro a S
  refine lv S (Rm (S.tm rfl)) rfl ?_;clear S;intro a S
  obtain ⟨r3, hr3, h⟩ := bindE h
  refine l_enter1 0 S (b := O) rfl rfl (fun _ => .blk O [U, iV r3.2] 25) (fun _ => run_call (vs := [.pointer (some ⟨O, 0, none⟩), iV Ay, iV Av]) ⟨(S.tm rfl), (S.tm rfl), (S.tm rfl), trivial⟩ Tryz.call6) (Stream_Range_ok _ O U Af (Ag.mono (S.le_arg (fp_sub (i := 0) (e := .blk O [U, iV r1.2] 25) rfl))) r1.2 (S.holds _ (List.mem_of_getElem? (i := 0) rfl)) Ay Av _ hr3) rfl (fun _ _ _ h => ⟨h.1, fun _ hc => by cases hc;rfl⟩) ?_;clear S;intro v3 a w4 hv3 hk4 hn3 S
  replace hv3 := hv3.2
  subst hv3
  refine lv S (Ra (S.tm rfl)) rfl ?_;clear S;intro a S
  refine Ld (Tn (wp_ret ?_))
  obtain rfl := Option.some.inj h
  exact f_ret S Tryz.results37 rfl ⟨(S.holds _ (List.mem_of_getElem? (i := 0) rfl)), rfl⟩
theorem tumbref2_sign_ok (w : World) (Am : Int) (r : Int) (h : tumbref2_sign Am = r) :
    Calls Tryz.prog 65 [iV Am].toArray w (Ret w [] fun _ v _ => v = iV r) := by
 refine f_enter [] [] Tryz.func65 rfl Tryz.ntmps65 rfl (by simp) (by simp [fps]) (by simp [fps]) fun a S => ?_
 unfold tumbref2_sign at h
 replace S := S.nk [] [(0, iV Am)] [] rfl ⟨rfl, trivial⟩
 refine Fs (Fg (lv S (Ra rfl) rfl ?_));clear S;intro a S
 refine Ld (Tn (Fs (wp_block (Fs (Fg (lv S (Rm (S.tm rfl)) rfl ?_))))));clear S;intro a S
 refine lv S (rn_lss (S.tm rfl) rfl) rfl ?_;clear S;intro a S
 refine lv S (Ra (S.tm rfl)) rfl ?_;clear S;intro a S
 refine Ld (Tn (f_cond (S.tm rfl) (fun hb1 => ?_) (fun hb1 => ?_)))
 ·replace h := iteT h hb1
  refine Fs (Fg (lv S (Ra rfl) rfl ?_));clear S;intro a S
  refine Ld (Tn (wp_ret (blk_r (then_r ?_))))
  subst h
  exact f_ret S Tryz.results65 rfl rfl
 ·replace h := iteF h hb1
  refine Fs (Fg (lv S (Rm (S.tm rfl)) rfl ?_));clear S;intro a S
  refine lv S (rn_gtr (S.tm rfl) rfl) rfl ?_;clear S;intro a S
  refine lv S (Ra (S.tm rfl)) rfl ?_;clear S;intro a S
  refine Ld (Tn (f_cond (S.tm rfl) (fun hb2 => ?_) (fun hb2 => ?_)))
  ·replace h := iteT h hb2
   refine Fs (Fg (lv S (Ra rfl) rfl ?_));clear S;intro a S
   refine Ld (Tn (wp_ret (blk_r (then_r ?_))))
   subst h
   exact f_ret S Tryz.results65 rfl rfl
  ·replace h := iteF h hb2
   refine wp_skip (blk_n (Tn (Fs (Fg (lv S (Ra rfl) rfl ?_)))));clear S;intro a S
   refine Ld (Tn (wp_ret ?_))
   subst h
   exact f_ret S Tryz.results65 rfl rfl
theorem strings_Compare_ok (w : World) (s t : ByteArray) (r : Int) (h : strings_Compare s t = r) : Calls Tryz.prog 49 [.string s, .string t].toArray w (Ret w [] fun _ v _ => v = .int .i64 r) := by
  subst h
  exact ret_of_same (Any.strings_Compare Tryz.lays106 s t w)
theorem tumbref2_StepOrder_ok (w : World) (Ap : GStep) (Ao : GStep) (r : Int) (h : tumbref2_StepOrder Ap Ao = r) :
    Calls Tryz.prog 39 [.agg (GStep.enc Ap).toArray, .agg (GStep.enc Ao).toArray].toArray w (Ret w [] fun _ v _ => v = iV r) := by
 refine f_enter [] [] Tryz.func39 rfl Tryz.ntmps39 rfl (by simp) (by simp [fps]) (by simp [fps]) fun a S => ?_
 unfold tumbref2_StepOrder at h
 replace S := S.nk [] [(0, .agg (GStep.enc Ap).toArray), (1, .agg (GStep.enc Ao).toArray)] [] rfl (subR rfl)
 refine Fs (Fg (l_box S (S.tm rfl) (cs := (GStep.enc Ap)) rfl rfl ?_));clear S;intro a w1 b1 hz1 hk1 S
 refine l_box S (S.tm rfl) (cs := (GStep.enc Ao)) rfl rfl ?_;clear S;intro a w2 b2 hz2 hk2 S
 refine lv S (Ra rfl) rfl ?_;clear S;intro a S
 refine Ld (Tn (Fs (wp_block (Fs (Fg (lv S (rn_fld fa_35_0 (S.tm rfl)) rfl ?_))))));clear S;intro a S
 refine lv S (rn_load Tryz.isAgg3 (S.tm rfl) (S.cell (i := 1) rfl rfl)) rfl ?_;clear S;intro a S
 refine lv S (rn_fld fa_35_0 (S.tm rfl)) rfl ?_;clear S;intro a S
 refine lv S (rn_load Tryz.isAgg3 (S.tm rfl) (S.cell (i := 0) rfl rfl)) rfl ?_;clear S;intro a S
 refine lv S (rn_neq (S.tm rfl) (S.tm rfl)) rfl ?_;clear S;intro a S
 refine lv S (Ra (S.tm rfl)) rfl ?_;clear S;intro a S
 refine Ld (Tn (f_cond (S.tm rfl) (fun hb1 => ?_) (fun hb1 => ?_)))
 ·replace h := iteT h hb1
  refine Fs (Fg (lv S (rn_fld fa_35_0 (S.tm rfl)) rfl ?_));clear S;intro a S
  refine lv S (rn_load Tryz.isAgg3 (S.tm rfl) (S.cell (i := 1) rfl rfl)) rfl ?_;clear S;intro a S
  refine lv S (rn_fld fa_35_0 (S.tm rfl)) rfl ?_;clear S;intro a S
  refine lv S (rn_load Tryz.isAgg3 (S.tm rfl) (S.cell (i := 0) rfl rfl)) rfl ?_;clear S;intro a S
  refine lv S (rn_sub (S.tm rfl) (S.tm rfl)) rfl ?_;clear S;intro a S
  refine l_enter S (fun _ => run_call (vs := [iV (W (Ap.At - Ao.At))]) ⟨(S.tm rfl), trivial⟩ Tryz.call65) (tumbref2_sign_ok _ (W (Ap.At - Ao.At)) _ rfl) rfl ?_;clear S;intro v1 a w3 hv1 hk3 hn1 S
  subst hv1
  refine lv S (Ra (S.tm rfl)) rfl ?_;clear S;intro a S
  refine Ld ?_
  replace S := S.nk [] [(4, iV (tumbref2_sign (W (Ap.At - Ao.At))))] [false, false] rfl ⟨rfl, trivial⟩
  refine Tn (wp_ret (blk_r (then_r ?_)))
  subst h
  exact f_ret S Tryz.results39 rfl rfl
 ·replace h := iteF h hb1
  refine Fs (Fg (lv S (rn_fld fa_35_2 (S.tm rfl)) rfl ?_));clear S;intro a S
  refine lv S (rn_load Tryz.isAgg9 (S.tm rfl) (S.cell (i := 1) rfl rfl)) rfl ?_;clear S;intro a S
  refine lv S (rn_fld fa_35_2 (S.tm rfl)) rfl ?_;clear S;intro a S
  refine lv S (rn_load Tryz.isAgg9 (S.tm rfl) (S.cell (i := 0) rfl rfl)) rfl ?_;clear S;intro a S
  refine lv S (rn_sneq (S.tm rfl) (S.tm rfl)) rfl ?_;clear S;intro a S
  refine lv S (Ra (S.tm rfl)) rfl ?_;clear S;intro a S
  refine Ld ?_
  replace S := S.nk [.blk b2 (GStep.enc Ao) 35, .blk b1 (GStep.enc Ap) 35] [(2, .pointer (some ⟨b1, 0, none⟩)), (3, .pointer (some ⟨b2, 0, none⟩)), (17, bV (!decide (Ap.Id = Ao.Id)))] [true, true] rfl (subR rfl)
  refine Tn (f_cond (S.tm rfl) (fun hb2 => ?_) (fun hb2 => ?_))
  ·replace h := iteT h hb2
   refine Fs (Fg (lv S (rn_fld fa_35_2 (S.tm rfl)) rfl ?_));clear S;intro a S
   refine lv S (rn_load Tryz.isAgg9 (S.tm rfl) (S.cell (i := 1) rfl rfl)) rfl ?_;clear S;intro a S
   refine lv S (rn_fld fa_35_2 (S.tm rfl)) rfl ?_;clear S;intro a S
   refine lv S (rn_load Tryz.isAgg9 (S.tm rfl) (S.cell (i := 0) rfl rfl)) rfl ?_;clear S;intro a S
   refine l_enter S (fun _ => run_call (vs := [sV Ap.Id, sV Ao.Id]) ⟨(S.tm rfl), (S.tm rfl), trivial⟩ Tryz.call49) (strings_Compare_ok _ Ap.Id Ao.Id _ rfl) rfl ?_;clear S;intro v2 a w4 hv2 hk4 hn2 S
   subst hv2
   refine lv S (Ra (S.tm rfl)) rfl ?_;clear S;intro a S
   refine Ld (Tn (wp_ret (blk_r (then_r ?_))))
   subst h
   exact f_ret S Tryz.results39 rfl rfl
  ·replace h := iteF h hb2
   refine wp_skip (blk_n (Tn (Fs (Fg (lv S (rn_fld fa_35_1 (S.tm rfl)) rfl ?_)))));clear S;intro a S
   refine lv S (rn_load Tryz.isAgg3 (S.tm rfl) (S.cell (i := 1) rfl rfl)) rfl ?_;clear S;intro a S
   refine lv S (rn_fld fa_35_1 (S.tm rfl)) rfl ?_;clear S;intro a S
   refine lv S (rn_load Tryz.isAgg3 (S.tm rfl) (S.cell (i := 0) rfl rfl)) rfl ?_;clear S;intro a S
   refine lv S (rn_sub (S.tm rfl) (S.tm rfl)) rfl ?_;clear S;intro a S
   refine l_enter S (fun _ => run_call (vs := [iV (W (Ap.Kind - Ao.Kind))]) ⟨(S.tm rfl), trivial⟩ Tryz.call65) (tumbref2_sign_ok _ (W (Ap.Kind - Ao.Kind)) _ rfl) rfl ?_;clear S;intro v3 a w5 hv3 hk5 hn3 S
   subst hv3
   refine lv S (Ra (S.tm rfl)) rfl ?_;clear S;intro a S
   refine Ld (Tn (wp_ret ?_))
   subst h
   exact f_ret S Tryz.results39 rfl rfl
set_option maxRecDepth 20000 in
theorem slices_insertionSortCmpFunc_Step_tumbref2_StepOrder_ok (w : World) (Ac : Value) (Bd : List GStep) (Cj : (LEnt.own Ac 35 8 Bd.length (Bd.flatMap GStep.enc)).holds w) (Ap : Int) (Ao : Int) (r : (List GStep)) (h : slices_insertionSortCmpFunc_Step_tumbref2_StepOrder Bd Ap Ao = some r) :
    Calls Tryz.prog 73 [Ac, iV Ap, iV Ao, .func (.func 39) #[] #[]].toArray w (Ret w (Ac.ownBlock.toList) fun _ v w' => (LEnt.own Ac 35 8 r.length (r.flatMap GStep.enc)).holds w' ∧ v = .tuple #[]) := by
 refine f_enter (Ac.ownBlock.toList) [.own Ac 35 8 Bd.length (Bd.flatMap GStep.enc)] Tryz.func73 rfl Tryz.ntmps73 rfl (fun e he => by simp only [List.mem_singleton] at he;subst he;exact Cj) (fps_one_nodup _) (fps_one_sub _) fun a S => ?_
 unfold slices_insertionSortCmpFunc_Step_tumbref2_StepOrder at h
 replace S := S.nk [.own Ac 35 8 Bd.length (Bd.flatMap GStep.enc)] [(0, Ac), (1, iV Ap), (2, iV Ao), (3, .func (.func 39) #[] #[])] [true] rfl (subR rfl)
 refine Fs (Fg (lv S (Rm (S.tm rfl)) rfl ?_));clear S;intro a S
 refine lv S (rn_add (S.tm rfl) rfl) rfl ?_;clear S;intro a S
 refine lv S (Ra (S.tm rfl)) rfl ?_;clear S;intro a S
 refine Ld (Tn ?_)
 replace S := S.nk [.own Ac 35 8 Bd.length (Bd.flatMap GStep.enc)] [(0, Ac), (1, iV Ap), (2, iV Ao), (3, .func (.func 39) #[] #[]), (8, iV (W (Ap + 1)))] [true] rfl (subR rfl)
 obtain ⟨j1, hj1, h⟩ := joinE h
 refine f_join (fun a w' => ∃ x1 : List GStep, j1 x1 = some r ∧ Sx w (Ac.ownBlock.toList) nov [.own Ac 35 8 x1.length (x1.flatMap GStep.enc)] [] 53 a w') ?_ ?_
 ·refine wp_block (f_loop (fun (m1 : Nat) a w' => ∃ x1 : List GStep, ∃ x2 : Int, slices_insertionSortCmpFunc_Step_tumbref2_StepOrder_l1 Ao Ap j1 m1 x1 x2 = some r ∧ Sx w (Ac.ownBlock.toList) nov [.own Ac 35 8 x1.length (x1.flatMap GStep.enc)] [(0, Ac), (1, iV Ap), (2, iV Ao), (3, .func (.func 39) #[] #[]), (8, iV x2)] 53 a w') id ((Ao - (W (Ap + 1))).toNat + 2) ⟨Bd, W (Ap + 1), h, S.nf [true] rfl (subR rfl)⟩ ?_)
  clear S h;rintro m1 a w1 ⟨x1, x2, h, S⟩
  cases m1 with
  | zero => rw [slices_insertionSortCmpFunc_Step_tumbref2_StepOrder_l1.eq_1] at h;cases h
  | succ m1 =>
   rw [slices_insertionSortCmpFunc_Step_tumbref2_StepOrder_l1.eq_2] at h
   refine Fs (Fs (Fg (lv S (Rm (S.tm rfl)) rfl ?_)));clear S;intro a S
   refine lv S (Rm (S.tm rfl)) rfl ?_;clear S;intro a S
   refine lv S (rn_lss (S.tm rfl) (S.tm rfl)) rfl ?_;clear S;intro a S
   refine Ld (Tn (f_cond (S.tm rfl) (fun hb1 => ?_) (fun hb1 => ?_)))
   ·replace h := iteT h hb1
    refine wp_skip (Tn (Fs (wp_block (Fs (Fg (lv S (Rm (S.tm rfl)) rfl ?_))))));clear S;intro a S
    refine lv S (Ra (S.tm rfl)) rfl ?_;clear S;intro a S
    refine Ld (Tn ?_)
    replace S := S.nk [.own Ac 35 8 x1.length (x1.flatMap GStep.enc)] [(0, Ac), (1, iV Ap), (2, iV Ao), (3, .func (.func 39) #[] #[]), (8, iV x2), (9, iV x2)] [true] rfl (subR rfl)
    obtain ⟨j2, hj2, h⟩ := joinE h
    refine f_join (fun a w' => ∃ x3 : List GStep, j2 x3 = some r ∧ Sx w (Ac.ownBlock.toList) nov [.own Ac 35 8 x3.length (x3.flatMap GStep.enc)] [(0, Ac), (1, iV Ap), (2, iV Ao), (3, .func (.func 39) #[] #[]), (8, iV x2)] 53 a w') ?_ ?_
    ·refine wp_block (f_loop (fun (m2 : Nat) a w' => ∃ x3 : List GStep, ∃ x4 : Int, slices_insertionSortCmpFunc_Step_tumbref2_StepOrder_l2 Ap j2 m2 x3 x4 = some r ∧ Sx w (Ac.ownBlock.toList) nov [.own Ac 35 8 x3.length (x3.flatMap GStep.enc)] [(0, Ac), (1, iV Ap), (2, iV Ao), (3, .func (.func 39) #[] #[]), (8, iV x2), (9, iV x4)] 53 a w') id ((x2 - Ap).toNat + 2) ⟨x1, x2, h, S.nf [true] rfl (subR rfl)⟩ ?_)
     clear S h;rintro m2 a w3 ⟨x3, x4, h, S⟩
     cases m2 with
     | zero => rw [slices_insertionSortCmpFunc_Step_tumbref2_StepOrder_l2.eq_1] at h;cases h
     | succ m2 =>
      rw [slices_insertionSortCmpFunc_Step_tumbref2_StepOrder_l2.eq_2] at h
      refine Fs (Fs ?_)
      obtain ⟨j3, hj3, h⟩ := joinE h
      refine f_join (fun a w' => ∃ x5 : Bool, j3 x5 = some r ∧ Sx w (Ac.ownBlock.toList) nov [.own Ac 35 8 x3.length (x3.flatMap GStep.enc)] [(0, Ac), (1, iV Ap), (2, iV Ao), (3, .func (.func 39) #[] #[]), (8, iV x2), (9, iV x4), (34, bV x5)] 53 a w') ?_ ?_
      ·rcases Bool.eq_false_or_eq_true (decide (Ap < x4)) with hb2 | hb2
       ·replace h := iteT h hb2
        obtain ⟨hc1, h⟩ := chkE h
        obtain ⟨hc2, h⟩ := chkE h
        refine d_region [] ([]) Tryz.mixed S rfl (by kernel_rfl) ?_;clear S;intro w7 hk2 hsel S
        refine d_quiet 0 S hsel rfl rfl rfl (by kernel_rfl) (by kernel_rfl) rfl (fun _ hw => (Rm (S.tm rfl))) ?_;clear S;intro a S
        refine d_quiet 1 S hsel rfl rfl rfl (by kernel_rfl) (by kernel_rfl) rfl (fun _ hw => (Rm (S.tm rfl))) ?_;clear S;intro a S
        refine d_quiet 2 S hsel rfl rfl rfl (by kernel_rfl) (by kernel_rfl) rfl (fun _ hw => (rn_gtr (S.tm rfl) (S.tm rfl))) ?_;clear S;intro a S
        refine d_quiet 3 S hsel rfl rfl rfl (by kernel_rfl) (by kernel_rfl) rfl (fun _ hw => (Rm (S.tm rfl))) ?_;clear S;intro a S
        refine d_quiet_g 4 S hsel rfl rfl rfl rfl hb2 rfl rfl (by kernel_rfl) (by kernel_rfl) rfl (fun _ hw => (Rm (S.tm rfl))) ?_;clear S;intro a S
        refine d_quiet_g 5 S hsel rfl rfl rfl rfl hb2 rfl rfl (by kernel_rfl) (by kernel_rfl) rfl (fun _ hw => (Rm (S.tm rfl))) ?_;clear S;intro a S
        refine d_quiet_g 6 S hsel rfl rfl rfl rfl hb2 rfl rfl (by kernel_rfl) (by kernel_rfl) rfl (fun _ hw => (Rm (S.tm rfl))) ?_;clear S;intro a S
        obtain ⟨b3, hg3, hr3⟩ := rn_indexS (a := a) (x := .tmp 23) (y := .tmp 24) (ty := 0) sl_28 GStep.enc_ok S (i := 0) rfl (inB_get hc1).1 (inB_get hc1).2 (S.tm rfl) (S.tm rfl)
        refine d_quiet_g 7 S hsel rfl rfl rfl rfl hb2 rfl rfl (by kernel_rfl) (by kernel_rfl) rfl (fun _ hw => (hr3 _)) ?_;clear S;intro a S
        clear hr3
        refine d_quiet_g 8 S hsel rfl rfl rfl rfl hb2 rfl rfl (by kernel_rfl) (by kernel_rfl) rfl (fun _ hw => (rn_ldA Tryz.isAgg35 Tryz.sizeOf35 (off := x4.toNat * 8) (o := 0) (part := (GStep.enc (nth x3 x4))) rfl rfl (S.tm rfl) ((own_mem GStep.enc_ok S (i := 0) rfl hg3 (inB_get hc1).1 (ne_nil (e' := .own Ac 35 8 x3.length (x3.flatMap GStep.enc)))).kept hw))) ?_;clear S;intro a S
        refine d_quiet_g 9 S hsel rfl rfl rfl rfl hb2 rfl rfl (by kernel_rfl) (by kernel_rfl) rfl (fun _ hw => (Rm (S.tm rfl))) ?_;clear S;intro a S
        refine d_quiet_g 10 S hsel rfl rfl rfl rfl hb2 rfl rfl (by kernel_rfl) (by kernel_rfl) rfl (fun _ hw => (Rm (S.tm rfl))) ?_;clear S;intro a S
        refine d_quiet_g 11 S hsel rfl rfl rfl rfl hb2 rfl rfl (by kernel_rfl) (by kernel_rfl) rfl (fun _ hw => (rn_sub (S.tm rfl) rfl)) ?_;clear S;intro a S
        obtain ⟨b4, hg4, hr4⟩ := rn_indexS (a := a) (x := .tmp 27) (y := .tmp 29) (ty := 0) sl_28 GStep.enc_ok S (i := 0) rfl (inB_get hc2).1 (inB_get hc2).2 (S.tm rfl) (S.tm rfl)
        refine d_quiet_g 12 S hsel rfl rfl rfl rfl hb2 rfl rfl (by kernel_rfl) (by kernel_rfl) rfl (fun _ hw => (hr4 _)) ?_;clear S;intro a S
        clear hr4
        refine d_quiet_g 13 S hsel rfl rfl rfl rfl hb2 rfl rfl (by kernel_rfl) (by kernel_rfl) rfl (fun _ hw => (rn_ldA Tryz.isAgg35 Tryz.sizeOf35 (off := ((W (x4 - 1)).toNat) * 8) (o := 0) (part := (GStep.enc (nth x3 (W (x4 - 1))))) rfl rfl (S.tm rfl) ((own_mem GStep.enc_ok S (i := 0) rfl hg4 (inB_get hc2).1 (ne_nil (e' := .own Ac 35 8 x3.length (x3.flatMap GStep.enc)))).kept hw))) ?_;clear S;intro a S
        refine d_loud1 14 (by kernel_rfl) rfl (l_want S rfl rfl rfl hb2 (l_enter S (fun _ => run_callV (cap := []) (S.tm rfl) (vs := [.agg (GStep.enc (nth x3 x4)).toArray, .agg (GStep.enc (nth x3 (W (x4 - 1)))).toArray]) ⟨(S.tm rfl), (S.tm rfl), trivial⟩ Tryz.call39) (tumbref2_StepOrder_ok _ (nth x3 x4) (nth x3 (W (x4 - 1))) _ rfl) rfl ?_));clear S;intro v2 a w8 hv2 hk3 hn2 S
        subst hv2
        refine Ld (d_next hk3 (d_rest [15, 16] hsel (by kernel_rfl) rfl ?_))
        clear hsel
        refine s_want S rfl rfl rfl rfl hb2 (s_lv0 S (rn_lss (S.tm rfl) rfl) rfl ?_);clear S;intro a S
        refine s_lv S rfl (rn_pick_b hb2 (S.tm rfl) (S.tm rfl)) rfl ?_;clear S;intro a S
        refine s_done ?_
        replace S := S.nk [.own Ac 35 8 x3.length (x3.flatMap GStep.enc)] [(0, Ac), (1, iV Ap), (2, iV Ao), (3, .func (.func 39) #[] #[]), (8, iV x2), (9, iV x4), (22, .func (.func 39) #[] #[]), (23, Ac), (24, iV x4), (25, .pointer (some ⟨b3, x4.toNat * 8, none⟩)), (26, .agg (GStep.enc (nth x3 x4)).toArray), (27, Ac), (28, iV x4), (29, iV (W (x4 - 1))), (30, .pointer (some ⟨b4, ((W (x4 - 1)).toNat) * 8, none⟩)), (31, .agg (GStep.enc (nth x3 (W (x4 - 1)))).toArray), (32, iV (tumbref2_StepOrder (nth x3 x4) (nth x3 (W (x4 - 1))))), (33, bV (decide ((tumbref2_StepOrder (nth x3 x4) (nth x3 (W (x4 - 1)))) < 0))), (34, bV (decide ((tumbref2_StepOrder (nth x3 x4) (nth x3 (W (x4 - 1)))) < 0)))] [true] rfl (subR rfl)
        refine Tn ?_
        exact ⟨decide ((tumbref2_StepOrder (nth x3 x4) (nth x3 (W (x4 - 1)))) < 0), h, S.nf [true] rfl (subR rfl)⟩
       ·replace h := iteF h hb2
        refine d_region [] ([]) Tryz.mixed S rfl (by kernel_rfl) ?_;clear S;intro w9 hk4 hsel S
        refine d_rest [0, 1, 2, 3, 4, 5, 6, 7, 8, 9, 10, 11, 12, 13, 14, 15, 16] hsel (by kernel_rfl) rfl ?_
        clear hsel
        refine s_lv S rfl (Rm (S.tm rfl)) rfl ?_;clear S;intro a S
        refine s_lv S rfl (Rm (S.tm rfl)) rfl ?_;clear S;intro a S
        refine s_lv S rfl (rn_gtr (S.tm rfl) (S.tm rfl)) rfl ?_;clear S;intro a S
        refine s_lv S rfl (Rm (S.tm rfl)) rfl ?_;clear S;intro a S
        iterate 12 (refine s_skip S rfl rfl rfl rfl (neq_f hb2) rfl ?_ rfl;clear S;intro a S)
        refine s_lv S rfl (rn_pick_c hb2 (S.tm rfl) rfl) rfl ?_;clear S;intro a S
        refine s_done ?_
        replace S := S.nk [.own Ac 35 8 x3.length (x3.flatMap GStep.enc)] [(0, Ac), (1, iV Ap), (2, iV Ao), (3, .func (.func 39) #[] #[]), (8, iV x2), (9, iV x4), (34, bV false)] [true] rfl (subR rfl)
        refine Tn ?_
        exact ⟨false, h, S.nf [true] rfl (subR rfl)⟩
      clear S h;rintro a w5 ⟨x5, h, S⟩;rw [hj3] at h;clear hj3 j3
      refine Tn (f_cond (S.tm rfl) (fun hb3 => ?_) (fun hb3 => ?_))
      ·replace h := iteT h hb3
       refine wp_skip (Tn (Fs (wp_block ?_)))
       obtain ⟨hc3, h⟩ := chkE h
       obtain ⟨hc4, h⟩ := chkE h
       obtain ⟨hc5, h⟩ := chkE h
       obtain ⟨hc6, h⟩ := chkE h
       refine d_region [15, 17] ([]) Tryz.mixed S rfl (by kernel_rfl) ?_;clear S;intro w14 hk9 hsel S
       refine d_pure 0 S hsel rfl rfl (by kernel_rfl) (by kernel_rfl) rfl (fun _ => (Rm (S.tm rfl))) ?_;clear S;intro a S
       refine d_pure 1 S hsel rfl rfl (by kernel_rfl) (by kernel_rfl) rfl (fun _ => (Rm (S.tm rfl))) ?_;clear S;intro a S
       refine d_pure 2 S hsel rfl rfl (by kernel_rfl) (by kernel_rfl) rfl (fun _ => (Rm (S.tm rfl))) ?_;clear S;intro a S
       refine d_pure 3 S hsel rfl rfl (by kernel_rfl) (by kernel_rfl) rfl (fun _ => (Rm (S.tm rfl))) ?_;clear S;intro a S
       refine d_pure 4 S hsel rfl rfl (by kernel_rfl) (by kernel_rfl) rfl (fun _ => (rn_sub (S.tm rfl) rfl)) ?_;clear S;intro a S
       refine d_pure 5 S hsel rfl rfl (by kernel_rfl) (by kernel_rfl) rfl (fun _ => (Rm (S.tm rfl))) ?_;clear S;intro a S
       refine d_pure 6 S hsel rfl rfl (by kernel_rfl) (by kernel_rfl) rfl (fun _ => (Rm (S.tm rfl))) ?_;clear S;intro a S
       refine d_pure 7 S hsel rfl rfl (by kernel_rfl) (by kernel_rfl) rfl (fun _ => (rn_sub (S.tm rfl) rfl)) ?_;clear S;intro a S
       obtain ⟨b9, hg9, hr9⟩ := rn_indexS (a := a) (x := .tmp 42) (y := .tmp 44) (ty := 0) sl_28 GStep.enc_ok S (i := 0) rfl (inB_get hc3).1 (inB_get hc3).2 (S.tm rfl) (S.tm rfl)
       refine d_pure 8 S hsel rfl rfl (by kernel_rfl) (by kernel_rfl) rfl (fun _ => (hr9 _)) ?_;clear S;intro a S
       clear hr9
       refine d_quiet 9 S hsel rfl (by kernel_rfl) (by kernel_rfl) (by kernel_rfl) (by kernel_rfl) rfl (fun _ hw => (rn_ldA Tryz.isAgg35 Tryz.sizeOf35 (off := ((W (x4 - 1)).toNat) * 8) (o := 0) (part := (GStep.enc (nth x3 (W (x4 - 1))))) rfl rfl (S.tm rfl) ((own_mem GStep.enc_ok S (i := 0) rfl hg9 (inB_get hc3).1 (ne_nil (e' := .own Ac 35 8 x3.length (x3.flatMap GStep.enc)))).kept hw))) ?_;clear S;intro a S
       refine d_pure 10 S hsel rfl rfl (by kernel_rfl) (by kernel_rfl) rfl (fun _ => (Rm (S.tm rfl))) ?_;clear S;intro a S
       refine d_pure 11 S hsel rfl rfl (by kernel_rfl) (by kernel_rfl) rfl (fun _ => (Rm (S.tm rfl))) ?_;clear S;intro a S
       obtain ⟨b10, hg10, hr10⟩ := rn_indexS (a := a) (x := .tmp 47) (y := .tmp 48) (ty := 0) sl_28 GStep.enc_ok S (i := 0) rfl (inB_get hc4).1 (inB_get hc4).2 (S.tm rfl) (S.tm rfl)
       refine d_pure 12 S hsel rfl rfl (by kernel_rfl) (by kernel_rfl) rfl (fun _ => (hr10 _)) ?_;clear S;intro a S
       clear hr10
       refine d_quiet 13 S hsel rfl (by kernel_rfl) (by kernel_rfl) (by kernel_rfl) (by kernel_rfl) rfl (fun _ hw => (rn_ldA Tryz.isAgg35 Tryz.sizeOf35 (off := x4.toNat * 8) (o := 0) (part := (GStep.enc (nth x3 x4))) rfl rfl (S.tm rfl) ((own_mem GStep.enc_ok S (i := 0) rfl hg10 (inB_get hc4).1 (ne_nil (e' := .own Ac 35 8 x3.length (x3.flatMap GStep.enc)))).kept hw))) ?_;clear S;intro a S
       obtain ⟨b11, hg11, hr11⟩ := rn_indexS (a := a) (x := .tmp 37) (y := .tmp 38) (ty := 0) sl_28 GStep.enc_ok S (i := 0) rfl (inB_get hc5).1 (inB_get hc5).2 (S.tm rfl) (S.tm rfl)
       refine d_pure 14 S hsel rfl rfl (by kernel_rfl) (by kernel_rfl) rfl (fun _ => (hr11 _)) ?_;clear S;intro a S
       clear hr11
       refine d_loudB 15 (Ac.ownBlock.toList) rfl (by kernel_rfl) rfl (l_storeO (c := 0) (j := x4.toNat) (nth x3 (W (x4 - 1))) GStep.enc_ok S (S.tm rfl) (S.tm rfl) (i := 0) rfl hg11 (inB_get hc5).1 Tryz.sizeOf35 (vs := [iV ((nth x3 (W (x4 - 1))).At), iV ((nth x3 (W (x4 - 1))).Kind), sV ((nth x3 (W (x4 - 1))).Id), sV ((nth x3 (W (x4 - 1))).Who), sV ((nth x3 (W (x4 - 1))).Club), sV ((nth x3 (W (x4 - 1))).Race), iV ((nth x3 (W (x4 - 1))).Age), iV ((nth x3 (W (x4 - 1))).Time)]) rfl rfl rfl rfl rfl ?_);clear S;intro w16 hk11 S
       refine Ld (d_nextB ?_)
       obtain ⟨b12, hg12, hr12⟩ := rn_indexS (a := a) (x := .tmp 39) (y := .tmp 41) (ty := 0) sl_28 GStep.enc_ok S (i := 0) rfl (inB_get hc6).1 (inB_get hc6).2 (S.tm rfl) (S.tm rfl)
       refine d_quiet 16 S hsel rfl rfl rfl (by kernel_rfl) (by kernel_rfl) rfl (fun _ hw => (hr12 _)) ?_;clear S;intro a S
       clear hr12
       refine d_loud1 17 (by kernel_rfl) rfl (l_storeO (c := 0) (j := (W (x4 - 1)).toNat) (nth x3 x4) GStep.enc_ok S (S.tm rfl) (S.tm rfl) (i := 0) rfl hg12 (inB_get hc6).1 Tryz.sizeOf35 (vs := [iV ((nth x3 x4).At), iV ((nth x3 x4).Kind), sV ((nth x3 x4).Id), sV ((nth x3 x4).Who), sV ((nth x3 x4).Club), sV ((nth x3 x4).Race), iV ((nth x3 x4).Age), iV ((nth x3 x4).Time)]) rfl rfl rfl rfl rfl ?_);clear S;intro w18 hk13 S
       refine Ld (d_next hk13 (d_end (by kernel_rfl) ?_))
       clear hsel
       replace S := S.nk [.own Ac 35 8 ((x3.set x4.toNat (nth x3 (W (x4 - 1)))).set ((W (x4 - 1)).toNat) (nth x3 x4)).length (((x3.set x4.toNat (nth x3 (W (x4 - 1)))).set ((W (x4 - 1)).toNat) (nth x3 x4)).flatMap GStep.enc)] [(0, Ac), (1, iV Ap), (2, iV Ao), (3, .func (.func 39) #[] #[]), (8, iV x2), (9, iV x4)] [true] rfl (subR rfl)
       refine blk_n (Tn (Fg (lv S (Rm (S.tm rfl)) rfl ?_)));clear S;intro a S
       refine lv S (rn_sub (S.tm rfl) rfl) rfl ?_;clear S;intro a S
       refine lv S (Ra (S.tm rfl)) rfl ?_;clear S;intro a S
       refine Ld (Tn ?_)
       exact ⟨m2, ⟨((x3.set x4.toNat (nth x3 (W (x4 - 1)))).set ((W (x4 - 1)).toNat) (nth x3 x4)), W (x4 - 1), h, S.nf [true] rfl ⟨rfl, rfl, rfl, rfl, rfl, rfl, trivial⟩⟩, Nat.lt_succ_self _⟩
      ·replace h := iteF h hb3
       refine wp_exit (then_x (then_x (x_same (Tn ?_))))
       exact ⟨x3, h, S.nf [true] rfl (subR rfl)⟩
    clear S h;rintro a w4 ⟨x3, h, S⟩;rw [hj2] at h;clear hj2 j2
    refine blk_n (Tn (Fg (lv S (Rm (S.tm rfl)) rfl ?_)));clear S;intro a S
    refine lv S (rn_add (S.tm rfl) rfl) rfl ?_;clear S;intro a S
    refine lv S (Ra (S.tm rfl)) rfl ?_;clear S;intro a S
    refine Ld (Tn ?_)
    exact ⟨m1, ⟨x3, W (x2 + 1), h, S.nf [true] rfl ⟨rfl, rfl, rfl, rfl, rfl, trivial⟩⟩, Nat.lt_succ_self _⟩
   ·replace h := iteF h hb1
    refine wp_exit (then_x (then_x (x_same (Tn ?_))))
    exact ⟨x1, h, S.nf [true] rfl trivial⟩
 clear S h;rintro a w2 ⟨x1, h, S⟩;rw [hj1] at h;clear hj1 j1
 obtain rfl := Option.some.inj h
 exact f_ret0 S Tryz.results73 ⟨(S.holds _ (List.mem_of_getElem? (i := 0) rfl)), rfl⟩
theorem slices_stableCmpFunc_Step_tumbref2_StepOrder_ok (w : World) (Ac : Value) (Bd : List GStep) (Cj : (LEnt.own Ac 35 8 Bd.length (Bd.flatMap GStep.enc)).holds w) (Am : Int) (r : (List GStep)) (h : slices_stableCmpFunc_Step_tumbref2_StepOrder Bd Am = some r) :
    Calls Tryz.prog 64 [Ac, iV Am, .func (.func 39) #[] #[]].toArray w (Ret w (Ac.ownBlock.toList) fun _ v w' => (LEnt.own Ac 35 8 r.length (r.flatMap GStep.enc)).holds w' ∧ v = .tuple #[]) := by
 refine f_enter (Ac.ownBlock.toList) [.own Ac 35 8 Bd.length (Bd.flatMap GStep.enc)] Tryz.func64 rfl Tryz.ntmps64 rfl (fun e he => by simp only [List.mem_singleton] at he;subst he;exact Cj) (fps_one_nodup _) (fps_one_sub _) fun a S => ?_
 unfold slices_stableCmpFunc_Step_tumbref2_StepOrder at h
 replace S := S.nk [.own Ac 35 8 Bd.length (Bd.flatMap GStep.enc)] [(0, Ac), (1, iV Am), (2, .func (.func 39) #[] #[])] [true] rfl (subR rfl)
 refine Fs (Fg (lv S (Ra rfl) rfl ?_));clear S;intro a S
 refine Ld (Tn (Fs (Fg (lv S (Rm (S.tm rfl)) rfl ?_))));clear S;intro a S
 refine lv S (Ra rfl) rfl ?_;clear S;intro a S
 refine lv S (Ra (S.tm rfl)) rfl ?_;clear S;intro a S
 refine Ld (Tn (Fs ?_))
 replace S := S.nk [.own Ac 35 8 Bd.length (Bd.flatMap GStep.enc)] [(0, Ac), (1, iV Am), (2, .func (.func 39) #[] #[]), (6, iV 20), (7, iV 0), (8, iV 20)] [true] rfl (subR rfl)
 obtain ⟨j1, hj1, h⟩ := joinE h
 refine f_join (fun a w' => ∃ x1 : List GStep, ∃ x2 : Int, j1 x1 x2 = some r ∧ Sx w (Ac.ownBlock.toList) nov [.own Ac 35 8 x1.length (x1.flatMap GStep.enc)] [(0, Ac), (1, iV Am), (2, .func (.func 39) #[] #[]), (6, iV 20), (7, iV x2)] 63 a w') ?_ ?_
 ·refine wp_block (f_loop (fun (m1 : Nat) a w' => ∃ x1 : List GStep, ∃ x2 : Int, ∃ x3 : Int, slices_stableCmpFunc_Step_tumbref2_StepOrder_l1 Am j1 m1 x1 x2 x3 = some r ∧ Sx w (Ac.ownBlock.toList) nov [.own Ac 35 8 x1.length (x1.flatMap GStep.enc)] [(0, Ac), (1, iV Am), (2, .func (.func 39) #[] #[]), (6, iV 20), (7, iV x2), (8, iV x3)] 63 a w') id ((Am - 20).toNat + 2) ⟨Bd, 0, 20, h, S.nf [true] rfl (subR rfl)⟩ ?_)
  clear S h;rintro m1 a w1 ⟨x1, x2, x3, h, S⟩
  cases m1 with
  | zero => rw [slices_stableCmpFunc_Step_tumbref2_StepOrder_l1.eq_1] at h;cases h
  | succ m1 =>
   rw [slices_stableCmpFunc_Step_tumbref2_StepOrder_l1.eq_2] at h
   refine Fs (Fs (Fg (lv S (Rm (S.tm rfl)) rfl ?_)));clear S;intro a S
   refine lv S (Rm (S.tm rfl)) rfl ?_;clear S;intro a S
   refine lv S (rn_leq (S.tm rfl) (S.tm rfl)) rfl ?_;clear S;intro a S
   refine Ld (Tn (f_cond (S.tm rfl) (fun hb1 => ?_) (fun hb1 => ?_)))
   ·replace h := iteT h hb1
    refine wp_skip (Tn (wp_block (Fs (Fg (lv S (Rm (S.tm rfl)) rfl ?_)))));clear S;intro a S
    iterate 3 (refine lv S (Rm (S.tm rfl)) rfl ?_;clear S;intro a S)
    obtain ⟨r1, hr1, h⟩ := bindE h
    refine l_enterO 0 S rfl (fun _ => .own Ac 35 8 r1.length (r1.flatMap GStep.enc)) (fun _ => run_call (vs := [Ac, iV x2, iV x3, .func (.func 39) #[] #[]]) ⟨(S.tm rfl), (S.tm rfl), (S.tm rfl), (S.tm rfl), trivial⟩ Tryz.call73) (slices_insertionSortCmpFunc_Step_tumbref2_StepOrder_ok _ Ac x1 (S.holds _ (List.mem_of_getElem? (i := 0) rfl)) x2 x3 _ hr1) rfl (fun _ _ _ h => ⟨h.1, fun _ hc => hc⟩) ?_;clear S;intro v1 a w3 hv1 hk1 hn1 S
    replace hv1 := hv1.2
    subst hv1
    refine Ld (Tn (Fs (Fg (lv S (Rm (S.tm rfl)) rfl ?_))));clear S;intro a S
    refine lv S (Ra (S.tm rfl)) rfl ?_;clear S;intro a S
    refine Ld ?_
    replace S := S.nk [.own Ac 35 8 r1.length (r1.flatMap GStep.enc)] [(0, Ac), (1, iV Am), (2, .func (.func 39) #[] #[]), (6, iV 20), (7, iV x3), (8, iV x3)] [true] rfl (subR rfl)
    refine Tn (Fg (lv S (Rm (S.tm rfl)) rfl ?_));clear S;intro a S
    refine lv S (Rm (S.tm rfl)) rfl ?_;clear S;intro a S
    refine lv S (rn_add (S.tm rfl) (S.tm rfl)) rfl ?_;clear S;intro a S
    refine lv S (Ra (S.tm rfl)) rfl ?_;clear S;intro a S
    refine Ld (blk_n (Tn ?_))
    exact ⟨m1, ⟨r1, x3, W (x3 + 20), h, S.nf [true] rfl ⟨rfl, rfl, rfl, rfl, rfl, rfl, trivial⟩⟩, Nat.lt_succ_self _⟩
   ·replace h := iteF h hb1
    refine wp_exit (then_x (then_x (x_same (Tn ?_))))
    exact ⟨x1, x2, h, S.nf [true] rfl (subR rfl)⟩
 clear S h;rintro a w2 ⟨x1, x2, h, S⟩;rw [hj1] at h;clear hj1 j1
 refine Tn (Fs (Fg (lv S (Rm (S.tm rfl)) rfl ?_)));clear S;intro a S
 iterate 3 (refine lv S (Rm (S.tm rfl)) rfl ?_;clear S;intro a S)
 obtain ⟨r2, hr2, h⟩ := bindE h
 refine l_enterO 0 S rfl (fun _ => .own Ac 35 8 r2.length (r2.flatMap GStep.enc)) (fun _ => run_call (vs := [Ac, iV x2, iV Am, .func (.func 39) #[] #[]]) ⟨(S.tm rfl), (S.tm rfl), (S.tm rfl), (S.tm rfl), trivial⟩ Tryz.call73) (slices_insertionSortCmpFunc_Step_tumbref2_StepOrder_ok _ Ac x1 (S.holds _ (List.mem_of_getElem? (i := 0) rfl)) x2 Am _ hr2) rfl (fun _ _ _ h => ⟨h.1, fun _ hc => hc⟩) ?_;clear S;intro v2 a w4 hv2 hk2 hn2 S
 replace hv2 := hv2.2
 subst hv2
 refine Ld (Tn ?_)
 replace S := S.nk [.own Ac 35 8 r2.length (r2.flatMap GStep.enc)] [(1, iV Am), (6, iV 20)] [true] rfl (subR rfl)
 obtain ⟨j2, hj2, h⟩ := joinE h
 refine f_join (fun a w' => j2 = some r ∧ Sx w (Ac.ownBlock.toList) nov [.own Ac 35 8 r2.length (r2.flatMap GStep.enc)] [] 63 a w') ?_ ?_
 ·refine wp_block (f_loop (fun (m2 : Nat) a w' => ∃ x4 : Int, slices_stableCmpFunc_Step_tumbref2_StepOrder_l2 Am j2 m2 x4 = some r ∧ Sx w (Ac.ownBlock.toList) nov [.own Ac 35 8 r2.length (r2.flatMap GStep.enc)] [(1, iV Am), (6, iV x4)] 63 a w') id ((Am - 20).toNat + 2) ⟨20, h, S.nf [true] rfl (subR rfl)⟩ ?_)
  clear S h;rintro m2 a w5 ⟨x4, h, S⟩
  cases m2 with
  | zero => rw [slices_stableCmpFunc_Step_tumbref2_StepOrder_l2.eq_1] at h;cases h
  | succ m2 =>
   rw [slices_stableCmpFunc_Step_tumbref2_StepOrder_l2.eq_2] at h
   refine Fs (Fs (Fg (lv S (Rm (S.tm rfl)) rfl ?_)));clear S;intro a S
   refine lv S (Rm (S.tm rfl)) rfl ?_;clear S;intro a S
   refine lv S (rn_lss (S.tm rfl) (S.tm rfl)) rfl ?_;clear S;intro a S
   refine Ld (Tn (f_cond (S.tm rfl) (fun hb2 => ?_) (fun hb2 => ?_)))
   ·replace h := iteT h hb2
    refine wp_skip (Tn (wp_block (Fs (Fg (lv S (Rm (S.tm rfl)) rfl ?_)))));clear S;intro a S
    refine lv S (rn_mul rfl (S.tm rfl)) rfl ?_;clear S;intro a S
    refine lv S (Ra rfl) rfl ?_;clear S;intro a S
    refine lv S (Ra (S.tm rfl)) rfl ?_;clear S;intro a S
    refine Ld (Tn (Fs ?_))
    replace S := S.nk [.own Ac 35 8 r2.length (r2.flatMap GStep.enc)] [(1, iV Am), (6, iV x4), (7, iV 0), (8, iV (W (2 * x4)))] [true] rfl (subR rfl)
    obtain ⟨j3, hj3, h⟩ := joinE h
    refine f_join (fun a w' => ∃ x5 : Int, j3 x5 = some r ∧ Sx w (Ac.ownBlock.toList) nov [.own Ac 35 8 r2.length (r2.flatMap GStep.enc)] [(1, iV Am), (6, iV x4), (7, iV x5)] 63 a w') ?_ ?_
    ·refine wp_block (f_loop (fun (m3 : Nat) a w' => ∃ x5 : Int, ∃ x6 : Int, slices_stableCmpFunc_Step_tumbref2_StepOrder_l3 Am j3 m3 x5 x6 = some r ∧ Sx w (Ac.ownBlock.toList) nov [.own Ac 35 8 r2.length (r2.flatMap GStep.enc)] [(1, iV Am), (6, iV x4), (7, iV x5), (8, iV x6)] 63 a w') id ((Am - (W (2 * x4))).toNat + 2) ⟨0, W (2 * x4), h, S.nf [true] rfl (subR rfl)⟩ ?_)
     clear S h;rintro m3 a w7 ⟨x5, x6, h, S⟩
     cases m3 with
     | zero => rw [slices_stableCmpFunc_Step_tumbref2_StepOrder_l3.eq_1] at h;cases h
     | succ m3 =>
      rw [slices_stableCmpFunc_Step_tumbref2_StepOrder_l3.eq_2] at h
      refine Fs (Fs (Fg (lv S (Rm (S.tm rfl)) rfl ?_)));clear S;intro a S
      refine lv S (Rm (S.tm rfl)) rfl ?_;clear S;intro a S
      refine lv S (rn_leq (S.tm rfl) (S.tm rfl)) rfl ?_;clear S;intro a S
      refine Ld (Tn (f_cond (S.tm rfl) (fun hb3 => ?_) (fun hb3 => ?_)))
      ·replace h := iteT h hb3
       refine wp_skip (Tn (wp_block (Fs ?_)))
       cases h
      ·replace h := iteF h hb3
       refine wp_exit (then_x (then_x (x_same (Tn ?_))))
       exact ⟨x5, h, S.nf [true] rfl (subR rfl)⟩
    clear S h;rintro a w8 ⟨x5, h, S⟩;rw [hj3] at h;clear hj3 j3
    refine Tn (Fs (Fs (Fg (lv S (Rm (S.tm rfl)) rfl ?_))));clear S;intro a S
    refine lv S (Rm (S.tm rfl)) rfl ?_;clear S;intro a S
    refine lv S (rn_add (S.tm rfl) (S.tm rfl)) rfl ?_;clear S;intro a S
    refine lv S (Ra (S.tm rfl)) rfl ?_;clear S;intro a S
    refine Ld (Tn (Fs (Fg (lv S (Rm (S.tm rfl)) rfl ?_))));clear S;intro a S
    refine lv S (Rm (S.tm rfl)) rfl ?_;clear S;intro a S
    refine lv S (rn_lss (S.tm rfl) (S.tm rfl)) rfl ?_;clear S;intro a S
    refine Ld (Tn (f_cond (S.tm rfl) (fun hb4 => ?_) (fun hb4 => ?_)))
    ·replace h := iteT h hb4
     cases h
    ·replace h := iteF h hb4
     refine wp_skip (Tn (Fg (lv S (Rm (S.tm rfl)) rfl ?_)));clear S;intro a S
     refine lv S (rn_mul (S.tm rfl) rfl) rfl ?_;clear S;intro a S
     refine lv S (Ra (S.tm rfl)) rfl ?_;clear S;intro a S
     refine Ld (blk_n (Tn ?_))
     exact ⟨m2, ⟨W (x4 * 2), h, S.nf [true] rfl ⟨rfl, rfl, trivial⟩⟩, Nat.lt_succ_self _⟩
   ·replace h := iteF h hb2
    refine wp_exit (then_x (then_x (x_same (Tn ?_))))
    exact ⟨h, S.nf [true] rfl trivial⟩
 clear S h;rintro a w6 ⟨h, S⟩;rw [hj2] at h;clear hj2 j2
 obtain rfl := Option.some.inj h
 exact f_ret0 S Tryz.results64 ⟨(S.holds _ (List.mem_of_getElem? (i := 0) rfl)), rfl⟩
theorem slices_SortStableFunc_Step_tumbref2_StepOrder_ok (w : World) (Bc : Value) (Ah : List GStep) (Cn : (LEnt.own Bc 35 8 Ah.length (Ah.flatMap GStep.enc)).holds w) (r : (List GStep)) (h : slices_SortStableFunc_Step_tumbref2_StepOrder Ah = some r) :
    Calls Tryz.prog 38 [Bc, .func (.func 39) #[] #[]].toArray w (Ret w (Bc.ownBlock.toList) fun _ v w' => (LEnt.own Bc 35 8 r.length (r.flatMap GStep.enc)).holds w' ∧ v = .tuple #[]) := by
 refine f_enter (Bc.ownBlock.toList) [.own Bc 35 8 Ah.length (Ah.flatMap GStep.enc)] Tryz.func38 rfl Tryz.ntmps38 rfl (fun e he => by simp only [List.mem_singleton] at he;subst he;exact Cn) (fps_one_nodup _) (fps_one_sub _) fun a S => ?_
 unfold slices_SortStableFunc_Step_tumbref2_StepOrder at h
 replace S := S.nk [.own Bc 35 8 Ah.length (Ah.flatMap GStep.enc)] [(0, Bc), (1, .func (.func 39) #[] #[])] [true] rfl (subR rfl)
 refine Fg (lv S (Rm (S.tm rfl)) rfl ?_);clear S;intro a S
 refine lv S (Rm (S.tm rfl)) rfl ?_;clear S;intro a S
 refine lv S (rn_lenT sl_28 (S.tm rfl) (own_len (S.own_at (i := 0) rfl))) rfl ?_;clear S;intro a S
 refine lv S (Rm (S.tm rfl)) rfl ?_;clear S;intro a S
 obtain ⟨r1, hr1, h⟩ := bindE h
 refine l_enterO 0 S rfl (fun _ => .own Bc 35 8 r1.length (r1.flatMap GStep.enc)) (fun _ => run_call (vs := [Bc, iV (Ah.length : Int), .func (.func 39) #[] #[]]) ⟨(S.tm rfl), (S.tm rfl), (S.tm rfl), trivial⟩ Tryz.call64) (slices_stableCmpFunc_Step_tumbref2_StepOrder_ok _ Bc Ah (S.holds _ (List.mem_of_getElem? (i := 0) rfl)) (Ah.length : Int) _ hr1) rfl (fun _ _ _ h => ⟨h.1, fun _ hc => hc⟩) ?_;clear S;intro v1 a w1 hv1 hk1 hn1 S
 replace hv1 := hv1.2
 subst hv1
 refine Ld ?_
 obtain rfl := Option.some.inj h
 exact f_ret0 S Tryz.results38 ⟨(S.holds _ (List.mem_of_getElem? (i := 0) rfl)), rfl⟩
theorem Stream_Steps_c1_ok (w : World) (Ap : GStep) (Ao : GStep) (r : Bool) (h : Stream_Steps_c1 Ap Ao = r) :
    Calls Tryz.prog 41 [.agg (GStep.enc Ap).toArray, .agg (GStep.enc Ao).toArray].toArray w (Ret w [] fun _ v _ => v = bV r) := by
 refine f_enter [] [] Tryz.func41 rfl Tryz.ntmps41 rfl (by simp) (by simp [fps]) (by simp [fps]) fun a S => ?_
 unfold Stream_Steps_c1 at h
 replace S := S.nk [] [(0, .agg (GStep.enc Ap).toArray), (1, .agg (GStep.enc Ao).toArray)] [] rfl (subR rfl)
 refine Fs (Fg (l_box S (S.tm rfl) (cs := (GStep.enc Ap)) rfl rfl ?_));clear S;intro a w1 b1 hz1 hk1 S
 refine l_box S (S.tm rfl) (cs := (GStep.enc Ao)) rfl rfl ?_;clear S;intro a w2 b2 hz2 hk2 S
 refine lv S (Ra rfl) rfl ?_;clear S;intro a S
 refine Ld (Tn (Fs (Fg (lv S (rn_ldA Tryz.isAgg35 Tryz.sizeOf35 (off := 0) (o := 0) (part := (GStep.enc Ap)) rfl rfl (S.tm rfl) (S.cellsAt (i := 1) rfl)) rfl ?_))));clear S;intro a S
 refine lv S (rn_ldA Tryz.isAgg35 Tryz.sizeOf35 (off := 0) (o := 0) (part := (GStep.enc Ao)) rfl rfl (S.tm rfl) (S.cellsAt (i := 0) rfl)) rfl ?_;clear S;intro a S
 refine l_enter S (fun _ => run_call (vs := [.agg (GStep.enc Ap).toArray, .agg (GStep.enc Ao).toArray]) ⟨(S.tm rfl), (S.tm rfl), trivial⟩ Tryz.call39) (tumbref2_StepOrder_ok _ Ap Ao _ rfl) rfl ?_;clear S;intro v1 a w3 hv1 hk3 hn1 S
 subst hv1
 refine lv S (rn_eql (S.tm rfl) rfl) rfl ?_;clear S;intro a S
 refine lv S (Ra (S.tm rfl)) rfl ?_;clear S;intro a S
 refine Ld (Tn (wp_ret ?_))
 subst h
 exact f_ret S Tryz.results41 rfl rfl
set_option maxRecDepth 20000 in
theorem slices_CompactFunc_Step_Stream_Steps_c1_ok (w : World) (Ai : Value) (Ab : List GStep) (Cr : (LEnt.own Ai 35 8 Ab.length (Ab.flatMap GStep.enc)).holds w) (r : (List GStep)) (h : slices_CompactFunc_Step_Stream_Steps_c1 Ab = some r) :
    Calls Tryz.prog 40 [Ai, .func (.func 41) #[] #[]].toArray w (Ret w (Ai.ownBlock.toList) fun _ v w' => (LEnt.own v 35 8 r.length (r.flatMap GStep.enc)).holds w' ∧ v.ownBlock = Ai.ownBlock) := by
 refine f_enter (Ai.ownBlock.toList) [.own Ai 35 8 Ab.length (Ab.flatMap GStep.enc)] Tryz.func40 rfl Tryz.ntmps40 rfl (fun e he => by simp only [List.mem_singleton] at he;subst he;exact Cr) (fps_one_nodup _) (fps_one_sub _) fun a S => ?_
 unfold slices_CompactFunc_Step_Stream_Steps_c1 at h
 replace S := S.nk [.own Ai 35 8 Ab.length (Ab.flatMap GStep.enc)] [(0, Ai), (1, .func (.func 41) #[] #[])] [true] rfl (subR rfl)
 refine Fs (Fg (lv S (Ra rfl) rfl ?_));clear S;intro a S
 refine Ld (Tn (Fs (Fs (Fg (lv S (Rm (S.tm rfl)) rfl ?_)))));clear S;intro a S
 refine lv S (rn_lenT sl_28 (S.tm rfl) (own_len (S.own_at (i := 0) rfl))) rfl ?_;clear S;intro a S
 refine lv S (rn_lss (S.tm rfl) rfl) rfl ?_;clear S;intro a S
 refine Ld (Tn (f_cond (S.tm rfl) (fun hb1 => ?_) (fun hb1 => ?_)))
 ·replace h := iteT h hb1
  refine Fs (Fg (lv S (Rm (S.tm rfl)) rfl ?_));clear S;intro a S
  refine lv S (Ra (S.tm rfl)) rfl ?_;clear S;intro a S
  refine Ld (Tn (wp_ret (then_r ?_)))
  obtain rfl := Option.some.inj h
  exact f_ret S Tryz.results40 rfl ⟨(S.holds _ (List.mem_of_getElem? (i := 0) rfl)), rfl⟩
 ·replace h := iteF h hb1
  refine wp_skip (Tn (Fs (Fs (Fg (lv S (Ra rfl) rfl ?_)))));clear S;intro a S
  refine Ld (Tn ?_)
  replace S := S.nk [.own Ai 35 8 Ab.length (Ab.flatMap GStep.enc)] [(0, Ai), (1, .func (.func 41) #[] #[]), (5, iV 1)] [true] rfl (subR rfl)
  obtain ⟨j1, hj1, h⟩ := joinE h
  refine f_join (fun a w' => j1 = some r ∧ Sx w (Ai.ownBlock.toList) nov [.own Ai 35 8 Ab.length (Ab.flatMap GStep.enc)] [(0, Ai)] 66 a w') ?_ ?_
  ·refine wp_block (f_loop (fun (m1 : Nat) a w' => ∃ x1 : Int, slices_CompactFunc_Step_Stream_Steps_c1_l1 Ab j1 m1 x1 = some r ∧ Sx w (Ai.ownBlock.toList) nov [.own Ai 35 8 Ab.length (Ab.flatMap GStep.enc)] [(0, Ai), (1, .func (.func 41) #[] #[]), (5, iV x1)] 66 a w') id (((Ab.length : Int) - 1).toNat + 2) ⟨1, h, S.nf [true] rfl (subR rfl)⟩ ?_)
   clear S h;rintro m1 a w1 ⟨x1, h, S⟩
   cases m1 with
   | zero => rw [slices_CompactFunc_Step_Stream_Steps_c1_l1.eq_1] at h;cases h
   | succ m1 =>
    rw [slices_CompactFunc_Step_Stream_Steps_c1_l1.eq_2] at h
    refine Fs (Fs (Fg (lv S (Rm (S.tm rfl)) rfl ?_)));clear S;intro a S
    refine lv S (Rm (S.tm rfl)) rfl ?_;clear S;intro a S
    refine lv S (rn_lenT sl_28 (S.tm rfl) (own_len (S.own_at (i := 0) rfl))) rfl ?_;clear S;intro a S
    refine lv S (rn_lss (S.tm rfl) (S.tm rfl)) rfl ?_;clear S;intro a S
    refine Ld (Tn (f_cond (S.tm rfl) (fun hb2 => ?_) (fun hb2 => ?_)))
    ·replace h := iteT h hb2
     refine wp_skip (Tn (Fs (wp_block (Fs ?_))))
     obtain ⟨hc1, h⟩ := chkE h
     obtain ⟨hc2, h⟩ := chkE h
     refine d_region [] ([]) Tryz.mixed S rfl (by kernel_rfl) ?_;clear S;intro w4 hk2 hsel S
     refine d_quiet 0 S hsel rfl rfl rfl (by kernel_rfl) (by kernel_rfl) rfl (fun _ hw => (Rm (S.tm rfl))) ?_;clear S;intro a S
     refine d_quiet 1 S hsel rfl rfl rfl (by kernel_rfl) (by kernel_rfl) rfl (fun _ hw => (Rm (S.tm rfl))) ?_;clear S;intro a S
     refine d_quiet 2 S hsel rfl rfl rfl (by kernel_rfl) (by kernel_rfl) rfl (fun _ hw => (Rm (S.tm rfl))) ?_;clear S;intro a S
     obtain ⟨b3, hg3, hr3⟩ := rn_indexS (a := a) (x := .tmp 19) (y := .tmp 20) (ty := 0) sl_28 GStep.enc_ok S (i := 0) rfl (inB_get hc1).1 (inB_get hc1).2 (S.tm rfl) (S.tm rfl)
     refine d_quiet 3 S hsel rfl rfl rfl (by kernel_rfl) (by kernel_rfl) rfl (fun _ hw => (hr3 _)) ?_;clear S;intro a S
     clear hr3
     refine d_quiet 4 S hsel rfl rfl rfl (by kernel_rfl) (by kernel_rfl) rfl (fun _ hw => (rn_ldA Tryz.isAgg35 Tryz.sizeOf35 (off := x1.toNat * 8) (o := 0) (part := (GStep.enc (nth Ab x1))) rfl rfl (S.tm rfl) ((own_mem GStep.enc_ok S (i := 0) rfl hg3 (inB_get hc1).1 (ne_nil (e' := .own Ai 35 8 Ab.length (Ab.flatMap GStep.enc)))).kept hw))) ?_;clear S;intro a S
     refine d_quiet 5 S hsel rfl rfl rfl (by kernel_rfl) (by kernel_rfl) rfl (fun _ hw => (Rm (S.tm rfl))) ?_;clear S;intro a S
     refine d_quiet 6 S hsel rfl rfl rfl (by kernel_rfl) (by kernel_rfl) rfl (fun _ hw => (Rm (S.tm rfl))) ?_;clear S;intro a S
     refine d_quiet 7 S hsel rfl rfl rfl (by kernel_rfl) (by kernel_rfl) rfl (fun _ hw => (rn_sub (S.tm rfl) rfl)) ?_;clear S;intro a S
     obtain ⟨b4, hg4, hr4⟩ := rn_indexS (a := a) (x := .tmp 23) (y := .tmp 25) (ty := 0) sl_28 GStep.enc_ok S (i := 0) rfl (inB_get hc2).1 (inB_get hc2).2 (S.tm rfl) (S.tm rfl)
     refine d_quiet 8 S hsel rfl rfl rfl (by kernel_rfl) (by kernel_rfl) rfl (fun _ hw => (hr4 _)) ?_;clear S;intro a S
     clear hr4
     refine d_quiet 9 S hsel rfl rfl rfl (by kernel_rfl) (by kernel_rfl) rfl (fun _ hw => (rn_ldA Tryz.isAgg35 Tryz.sizeOf35 (off := ((W (x1 - 1)).toNat) * 8) (o := 0) (part := (GStep.enc (nth Ab (W (x1 - 1))))) rfl rfl (S.tm rfl) ((own_mem GStep.enc_ok S (i := 0) rfl hg4 (inB_get hc2).1 (ne_nil (e' := .own Ai 35 8 Ab.length (Ab.flatMap GStep.enc)))).kept hw))) ?_;clear S;intro a S
     refine d_loud1 10 (by kernel_rfl) rfl (l_enter S (fun _ => run_callV (cap := []) (S.tm rfl) (vs := [.agg (GStep.enc (nth Ab x1)).toArray, .agg (GStep.enc (nth Ab (W (x1 - 1)))).toArray]) ⟨(S.tm rfl), (S.tm rfl), trivial⟩ Tryz.call41) (Stream_Steps_c1_ok _ (nth Ab x1) (nth Ab (W (x1 - 1))) _ rfl) rfl ?_);clear S;intro v2 a w5 hv2 hk3 hn2 S
     subst hv2
     refine Ld (d_next hk3 (d_end (by kernel_rfl) ?_))
     clear hsel
     replace S := S.nk [.own Ai 35 8 Ab.length (Ab.flatMap GStep.enc)] [(0, Ai), (1, .func (.func 41) #[] #[]), (5, iV x1), (28, bV (Stream_Steps_c1 (nth Ab x1) (nth Ab (W (x1 - 1)))))] [true] rfl (subR rfl)
     refine Tn (f_cond (S.tm rfl) (fun hb3 => ?_) (fun hb3 => ?_))
     ·replace h := iteT h hb3
      refine Fs (Fg (lv S (Rm (S.tm rfl)) rfl ?_));clear S;intro a S
      refine lv S (Rm (S.tm rfl)) rfl ?_;clear S;intro a S
      obtain ⟨hc3, h⟩ := chkE h
      obtain ⟨u1, hu1, hr5⟩ := rn_subl (a := a) (x := .tmp 29) (y := .tmp 30) (ty := 28) sl_28 S (i := 0) rfl (S.tm rfl) (S.tm rfl) hc3
      refine lv S (hr5 _) rfl ?_;clear S;intro a S
      clear hr5
      refine lv S (Ra (S.tm rfl)) rfl ?_;clear S;intro a S
      refine Ld (Tn (Fs (Fs (Fg (lv S (Ra rfl) rfl ?_)))));clear S;intro a S
      refine Ld (Tn ?_)
      replace S := S.nk [.own Ai 35 8 Ab.length (Ab.flatMap GStep.enc)] [(0, Ai), (1, .func (.func 41) #[] #[]), (5, iV x1), (6, u1), (7, iV 1)] [true] rfl (subR rfl)
      obtain ⟨j2, hj2, h⟩ := joinE h
      refine f_join (fun a w' => ∃ x2 : List GStep, ∃ x3 : Int, j2 x2 x3 = some r ∧ Sx w (Ai.ownBlock.toList) nov [.own Ai 35 8 x2.length (x2.flatMap GStep.enc)] [(0, Ai), (5, iV x3)] 66 a w') ?_ ?_
      ·refine wp_block (f_loop (fun (m2 : Nat) a w' => ∃ x2 : List GStep, ∃ x3 : Int, ∃ x4 : Int, slices_CompactFunc_Step_Stream_Steps_c1_l2 Ab x1 j2 m2 x2 x3 x4 = some r ∧ Sx w (Ai.ownBlock.toList) nov [.own Ai 35 8 x2.length (x2.flatMap GStep.enc)] [(0, Ai), (1, .func (.func 41) #[] #[]), (5, iV x3), (6, u1), (7, iV x4)] 66 a w') id (((((Ab.length : Int).toNat - x1.toNat : Nat) : Int) - 1).toNat + 2) ⟨Ab, x1, 1, h, S.nf [true] rfl (subR rfl)⟩ ?_)
       clear S h;rintro m2 a w6 ⟨x2, x3, x4, h, S⟩
       cases m2 with
       | zero => rw [slices_CompactFunc_Step_Stream_Steps_c1_l2.eq_1] at h;cases h
       | succ m2 =>
        rw [slices_CompactFunc_Step_Stream_Steps_c1_l2.eq_2] at h
        refine Fs (Fs (Fg (lv S (Rm (S.tm rfl)) rfl ?_)));clear S;intro a S
        refine lv S (Rm (S.tm rfl)) rfl ?_;clear S;intro a S
        refine lv S (rn_lenT sl_28 (S.tm rfl) (subLen hu1)) rfl ?_;clear S;intro a S
        refine lv S (rn_lss (S.tm rfl) (S.tm rfl)) rfl ?_;clear S;intro a S
        refine Ld (Tn (f_cond (S.tm rfl) (fun hb4 => ?_) (fun hb4 => ?_)))
        ·replace h := iteT h hb4
         refine wp_skip (Tn (Fs ?_))
         obtain ⟨j3, hj3, h⟩ := joinE h
         refine f_join (fun a w' => ∃ x5 : List GStep, ∃ x6 : Int, j3 x5 x6 = some r ∧ Sx w (Ai.ownBlock.toList) nov [.own Ai 35 8 x5.length (x5.flatMap GStep.enc)] [(0, Ai), (1, .func (.func 41) #[] #[]), (5, iV x6), (6, u1), (7, iV x4)] 66 a w') ?_ ?_
         ·refine wp_block (Fs ?_)
          obtain ⟨hc4, h⟩ := chkE h
          obtain ⟨hc5, h⟩ := chkE h
          refine d_region [] ([]) Tryz.mixed S rfl (by kernel_rfl) ?_;clear S;intro w10 hk5 hsel S
          refine d_quiet 0 S hsel rfl rfl rfl (by kernel_rfl) (by kernel_rfl) rfl (fun _ hw => (Rm (S.tm rfl))) ?_;clear S;intro a S
          refine d_quiet 1 S hsel rfl rfl rfl (by kernel_rfl) (by kernel_rfl) rfl (fun _ hw => (Rm (S.tm rfl))) ?_;clear S;intro a S
          refine d_quiet 2 S hsel rfl rfl rfl (by kernel_rfl) (by kernel_rfl) rfl (fun _ hw => (Rm (S.tm rfl))) ?_;clear S;intro a S
          have hj6 := (sub_get (sub_le S (i := 0) rfl hu1) hc4).1
          obtain ⟨b7, hg7, hr8⟩ := rn_indexSub (a := a) (x := .tmp 39) (y := .tmp 40) (ty := 0) sl_28 GStep.enc_ok S (i := 0) rfl hu1 hc4 (S.tm rfl) (S.tm rfl)
          refine d_quiet 3 S hsel rfl rfl rfl (by kernel_rfl) (by kernel_rfl) rfl (fun _ hw => (hr8 _)) ?_;clear S;intro a S
          clear hr8
          refine d_quiet 4 S hsel rfl rfl rfl (by kernel_rfl) (by kernel_rfl) rfl (fun _ hw => (rn_ldA Tryz.isAgg35 Tryz.sizeOf35 (off := (x1.toNat + x4.toNat) * 8) (o := 0) (part := (GStep.enc (nth (cut x2 x1 (Ab.length : Int)) x4))) rfl rfl (S.tm rfl) ((own_mem GStep.enc_ok S (i := 0) rfl hg7 hj6 (ne_nil (e' := .own Ai 35 8 x2.length (x2.flatMap GStep.enc)))).kept hw))) ?_;clear S;intro a S
          refine d_quiet 5 S hsel rfl rfl rfl (by kernel_rfl) (by kernel_rfl) rfl (fun _ hw => (Rm (S.tm rfl))) ?_;clear S;intro a S
          refine d_quiet 6 S hsel rfl rfl rfl (by kernel_rfl) (by kernel_rfl) rfl (fun _ hw => (Rm (S.tm rfl))) ?_;clear S;intro a S
          refine d_quiet 7 S hsel rfl rfl rfl (by kernel_rfl) (by kernel_rfl) rfl (fun _ hw => (rn_sub (S.tm rfl) rfl)) ?_;clear S;intro a S
          have hj7 := (sub_get (sub_le S (i := 0) rfl hu1) hc5).1
          obtain ⟨b8, hg8, hr9⟩ := rn_indexSub (a := a) (x := .tmp 43) (y := .tmp 45) (ty := 0) sl_28 GStep.enc_ok S (i := 0) rfl hu1 hc5 (S.tm rfl) (S.tm rfl)
          refine d_quiet 8 S hsel rfl rfl rfl (by kernel_rfl) (by kernel_rfl) rfl (fun _ hw => (hr9 _)) ?_;clear S;intro a S
          clear hr9
          refine d_quiet 9 S hsel rfl rfl rfl (by kernel_rfl) (by kernel_rfl) rfl (fun _ hw => (rn_ldA Tryz.isAgg35 Tryz.sizeOf35 (off := (x1.toNat + (W (x4 - 1)).toNat) * 8) (o := 0) (part := (GStep.enc (nth (cut x2 x1 (Ab.length : Int)) (W (x4 - 1))))) rfl rfl (S.tm rfl) ((own_mem GStep.enc_ok S (i := 0) rfl hg8 hj7 (ne_nil (e' := .own Ai 35 8 x2.length (x2.flatMap GStep.enc)))).kept hw))) ?_;clear S;intro a S
          refine d_loud1 10 (by kernel_rfl) rfl (l_enter S (fun _ => run_callV (cap := []) (S.tm rfl) (vs := [.agg (GStep.enc (nth (cut x2 x1 (Ab.length : Int)) x4)).toArray, .agg (GStep.enc (nth (cut x2 x1 (Ab.length : Int)) (W (x4 - 1)))).toArray]) ⟨(S.tm rfl), (S.tm rfl), trivial⟩ Tryz.call41) (Stream_Steps_c1_ok _ (nth (cut x2 x1 (Ab.length : Int)) x4) (nth (cut x2 x1 (Ab.length : Int)) (W (x4 - 1))) _ rfl) rfl ?_);clear S;intro v4 a w11 hv4 hk6 hn4 S
          subst hv4
          refine Ld (d_next hk6 (d_rest [11] hsel (by kernel_rfl) rfl ?_))
          clear hsel
          refine s_lv S rfl (rn_not (S.tm rfl)) rfl ?_;clear S;intro a S
          refine s_done ?_
          replace S := S.nk [.own Ai 35 8 x2.length (x2.flatMap GStep.enc)] [(0, Ai), (1, .func (.func 41) #[] #[]), (5, iV x3), (6, u1), (7, iV x4), (49, bV (!(Stream_Steps_c1 (nth (cut x2 x1 (Ab.length : Int)) x4) (nth (cut x2 x1 (Ab.length : Int)) (W (x4 - 1))))))] [true] rfl (subR rfl)
          refine Tn ?_
          obtain ⟨j4, hj8, h⟩ := joinE h
          refine f_join (fun a w' => ∃ x7 : List GStep, ∃ x8 : Int, j4 x7 x8 = some r ∧ Sx w (Ai.ownBlock.toList) nov [.own Ai 35 8 x7.length (x7.flatMap GStep.enc)] [(0, Ai), (1, .func (.func 41) #[] #[]), (5, iV x8), (6, u1), (7, iV x4)] 66 a w') ?_ ?_
          ·refine f_cond (S.tm rfl) (fun hb5 => ?_) (fun hb5 => ?_)
           ·replace h := iteT h hb5
            refine Fs (Fg (lv S (Rm (S.tm rfl)) rfl ?_));clear S;intro a S
            iterate 3 (refine lv S (Rm (S.tm rfl)) rfl ?_;clear S;intro a S)
            obtain ⟨hc6, h⟩ := chkE h
            have hj9 := (sub_get (sub_le S (i := 0) rfl hu1) hc6).1
            obtain ⟨b9, hg9, hr10⟩ := rn_indexSub (a := a) (x := .tmp 52) (y := .tmp 53) (ty := 0) sl_28 GStep.enc_ok S (i := 0) rfl hu1 hc6 (S.tm rfl) (S.tm rfl)
            refine lv S (hr10 _) rfl ?_;clear S;intro a S
            clear hr10
            refine lv S (rn_ldA Tryz.isAgg35 Tryz.sizeOf35 (off := (x1.toNat + x4.toNat) * 8) (o := 0) (part := (GStep.enc (nth (cut x2 x1 (Ab.length : Int)) x4))) rfl rfl (S.tm rfl) (own_cells GStep.enc_ok S (i := 0) rfl hg9 hj9)) rfl ?_;clear S;intro a S
            obtain ⟨hc7, h⟩ := chkE h
            obtain ⟨b10, hg10, hr11⟩ := rn_indexS (a := a) (x := .tmp 50) (y := .tmp 51) (ty := 0) sl_28 GStep.enc_ok S (i := 0) rfl (inB_get hc7).1 (inB_get hc7).2 (S.tm rfl) (S.tm rfl)
            refine lv S (hr11 _) rfl ?_;clear S;intro a S
            clear hr11
            refine l_storeO (c := 0) (j := x3.toNat) (nth (cut x2 x1 (Ab.length : Int)) x4) GStep.enc_ok S (S.tm rfl) (S.tm rfl) (i := 0) rfl hg10 (inB_get hc7).1 Tryz.sizeOf35 (vs := [iV ((nth (cut x2 x1 (Ab.length : Int)) x4).At), iV ((nth (cut x2 x1 (Ab.length : Int)) x4).Kind), sV ((nth (cut x2 x1 (Ab.length : Int)) x4).Id), sV ((nth (cut x2 x1 (Ab.length : Int)) x4).Who), sV ((nth (cut x2 x1 (Ab.length : Int)) x4).Club), sV ((nth (cut x2 x1 (Ab.length : Int)) x4).Race), iV ((nth (cut x2 x1 (Ab.length : Int)) x4).Age), iV ((nth (cut x2 x1 (Ab.length : Int)) x4).Time)]) rfl rfl rfl rfl rfl ?_;clear S;intro w14 hk8 S
            refine Ld (Tn (Fg (lv S (Rm (S.tm rfl)) rfl ?_)));clear S;intro a S
            refine lv S (rn_add (S.tm rfl) rfl) rfl ?_;clear S;intro a S
            refine lv S (Ra (S.tm rfl)) rfl ?_;clear S;intro a S
            refine Ld (Tn ?_)
            exact ⟨(x2.set x3.toNat (nth (cut x2 x1 (Ab.length : Int)) x4)), W (x3 + 1), h, S.nf [true] rfl (subR rfl)⟩
           ·replace h := iteF h hb5
            refine wp_skip (Tn ?_)
            exact ⟨x2, x3, h, S.nf [true] rfl (subR rfl)⟩
          clear S h;rintro a w12 ⟨x7, x8, h, S⟩;rw [hj8] at h;clear hj8 j4
          refine blk_n (Tn ?_)
          exact ⟨x7, x8, h, S.nf [true] rfl (subR rfl)⟩
         clear S h;rintro a w8 ⟨x5, x6, h, S⟩;rw [hj3] at h;clear hj3 j3
         refine Tn (Fg (lv S (Rm (S.tm rfl)) rfl ?_));clear S;intro a S
         refine lv S (rn_add (S.tm rfl) rfl) rfl ?_;clear S;intro a S
         refine lv S (Ra (S.tm rfl)) rfl ?_;clear S;intro a S
         refine Ld (Tn ?_)
         exact ⟨m2, ⟨x5, x6, W (x4 + 1), h, S.nf [true] rfl ⟨rfl, rfl, rfl, rfl, rfl, trivial⟩⟩, Nat.lt_succ_self _⟩
        ·replace h := iteF h hb4
         refine wp_exit (then_x (then_x (x_same (Tn ?_))))
         exact ⟨x2, x3, h, S.nf [true] rfl (subR rfl)⟩
      clear S h;rintro a w7 ⟨x2, x3, h, S⟩;rw [hj2] at h;clear hj2 j2
      refine Tn (Fs (Fg (lv S (Rm (S.tm rfl)) rfl ?_)));clear S;intro a S
      refine lv S (Rm (S.tm rfl)) rfl ?_;clear S;intro a S
      obtain ⟨hc8, h⟩ := chkE h
      obtain ⟨u2, hu2, hr12⟩ := rn_subl (a := a) (x := .tmp 59) (y := .tmp 60) (ty := 28) sl_28 S (i := 0) rfl (S.tm rfl) (S.tm rfl) hc8
      refine lv S (hr12 _) rfl ?_;clear S;intro a S
      clear hr12
      refine l_clear (zl := x3) (zh := (x2.length : Int)) (z := (GStep.mk 0 0 k_empty k_empty k_empty k_empty 0 0)) sl_28 rfl GStep.enc_ok S (i := 0) rfl hu2 (S.tm rfl) Tryz.zeroValue35 rfl ?_;clear S;intro w15 hk9 S
      refine Ld (Tn (Fs (Fg (lv S (Rm (S.tm rfl)) rfl ?_))));clear S;intro a S
      refine lv S (Rm (S.tm rfl)) rfl ?_;clear S;intro a S
      obtain ⟨hc9, h⟩ := chkE h
      obtain ⟨u3, hu3, hr13⟩ := rn_subh (a := a) (x := .tmp 62) (y' := .tmp 63) (ty := 28) sl_28 S (i := 0) rfl (S.tm rfl) (S.tm rfl) hc9
      refine lv S (hr13 _) rfl ?_;clear S;intro a S
      clear hr13
      refine lv S (Ra (S.tm rfl)) rfl ?_;clear S;intro a S
      refine Ld (Tn (wp_ret (blk_r (then_r (then_r (blk_r ?_))))))
      refine then_r (then_r ?_)
      obtain ⟨S, hz1⟩ := S.ownCut (zh := x3) GStep.enc_ok (i := 0) rfl hu3
      obtain rfl := Option.some.inj h
      exact f_ret S Tryz.results40 rfl ⟨(S.holds _ (List.mem_of_getElem? (i := 0) rfl)), (SubV.block hu3)⟩
     ·replace h := iteF h hb3
      refine wp_skip (blk_n (Tn (Fg (lv S (Rm (S.tm rfl)) rfl ?_))));clear S;intro a S
      refine lv S (rn_add (S.tm rfl) rfl) rfl ?_;clear S;intro a S
      refine lv S (Ra (S.tm rfl)) rfl ?_;clear S;intro a S
      refine Ld (Tn ?_)
      exact ⟨m1, ⟨W (x1 + 1), h, S.nf [true] rfl ⟨rfl, rfl, rfl, trivial⟩⟩, Nat.lt_succ_self _⟩
    ·replace h := iteF h hb2
     refine wp_exit (then_x (then_x (x_same (Tn ?_))))
     exact ⟨h, S.nf [true] rfl ⟨rfl, trivial⟩⟩
  clear S h;rintro a w2 ⟨h, S⟩;rw [hj1] at h;clear hj1 j1
  refine Tn (Fs (Fg (lv S (Rm (S.tm rfl)) rfl ?_)));clear S;intro a S
  refine lv S (Ra (S.tm rfl)) rfl ?_;clear S;intro a S
  refine Ld (Tn (wp_ret ?_))
  obtain rfl := Option.some.inj h
  exact f_ret S Tryz.results40 rfl ⟨(S.holds _ (List.mem_of_getElem? (i := 0) rfl)), rfl⟩
theorem Stream_Steps_ok (w : World) (O : Nat) (U : Value) (Af : List Int) (Ag : Slc (view w [O]) 1 U (Af.map eInt)) (Ad : Int) (Aw : (LEnt.blk O [U, iV Ad] 25).holds w) (Ar : Int) (r : (List GStep) × Int) (h : Stream_Steps Af Ad Ar = some r) :
    Calls Tryz.prog 19 [.pointer (some ⟨O, 0, none⟩), iV Ar].toArray w (Ret w [O] fun τ v w' => (LEnt.blk O [U, iV r.2] 25).holds w' ∧ OwnV τ 35 8 v r.1.length (r.1.flatMap GStep.enc)) := by
 refine f_enter [O] [.blk O [U, iV Ad] 25] Tryz.func19 rfl Tryz.ntmps19 rfl (fun e he => by simp only [List.mem_singleton] at he;subst he;exact Aw) (by simp [fps, LEnt.fp]) (by simp [fps, LEnt.fp]) fun a S => ?_
 unfold Stream_Steps at h
 replace S := S.nk [.blk O [U, iV Ad] 25] [(0, .pointer (some ⟨O, 0, none⟩)), (1, iV Ar)] [true] rfl (subR rfl)
 refine Fs (Fg (lv S (Ra rfl) rfl ?_));clear S;intro a S
 refine Ld (Tn (Fs (Fg (lv S (Ra rfl) rfl ?_))));clear S;intro a S
 replace S := S.nil 35 8
 refine Ld (Tn (Fs (Fg (lv S (Ra rfl) rfl ?_))));clear S;intro a S
 refine Ld (Tn (Fs (Fs (Fg (lv S (Rm (S.tm rfl)) rfl ?_)))));clear S;intro a S
 refine lv S (Rm rfl) rfl ?_;clear S;intro a S
 refine Ld (Tn ?_)
 replace S := S.nk [.own (.slice none 0 0) 35 8 ([] : List GStep).length (([] : List GStep).flatMap GStep.enc), .blk O [U, iV Ad] 25] [(0, .pointer (some ⟨O, 0, none⟩)), (5, (.slice none 0 0)), (6, iV 0), (8, iV Ar), (9, iV 0)] [true, true] rfl (subR rfl)
 obtain ⟨j1, hj1, h⟩ := joinE h
 refine f_join (fun a w' => ∃ x1 : List GStep, ∃ x2 : Int, ∃ v1 : Value, j1 x1 x2 = some r ∧ Sx w [O] nov [.own v1 35 8 x1.length (x1.flatMap GStep.enc), .blk O [U, iV x2] 25] [(5, v1)] 83 a w') ?_ ?_
 ·refine wp_block (f_loop (fun (m1 : Nat) a w' => ∃ x1 : List GStep, ∃ x2 : Int, ∃ x3 : Int, ∃ x4 : Int, ∃ v1 : Value, Stream_Steps_l1 Ar Af j1 m1 x1 x2 x3 x4 = some r ∧ Sx w [O] nov [.own v1 35 8 x1.length (x1.flatMap GStep.enc), .blk O [U, iV x2] 25] [(0, .pointer (some ⟨O, 0, none⟩)), (5, v1), (6, iV x3), (8, iV Ar), (9, iV x4)] 83 a w') id ((Ar - 0).toNat + 2) ⟨([] : List GStep), Ad, 0, 0, (.slice none 0 0), h, S.nf [true, true] rfl (subR rfl)⟩ ?_)
  clear S h;rintro m1 a w1 ⟨x1, x2, x3, x4, v1, h, S⟩
  cases m1 with
  | zero => rw [Stream_Steps_l1.eq_1] at h;cases h
  | succ m1 =>
   rw [Stream_Steps_l1.eq_2] at h
   refine Fs (Fg (lv S (rn_lss (S.tm rfl) (S.tm rfl)) rfl ?_));clear S;intro a S
   refine Ld (Tn (Fs (f_cond (S.tm rfl) (fun hb1 => ?_) (fun hb1 => ?_))))
   ·replace h := iteT h hb1
    refine wp_skip (Tn (Fs (wp_block (Fs (Fg (lv S (Rm (S.tm rfl)) rfl ?_))))));clear S;intro a S
    refine lv S (Rm (S.tm rfl)) rfl ?_;clear S;intro a S
    refine l_buildSlice S Tryz.underlying22 Tryz.sizeOf3 Tryz.zeroValue3 rfl rfl (pv := [(0, iV 0), (1, iV 1), (2, iV 1), (3, iV 5)]) ⟨rfl, rfl, rfl, rfl, rfl, rfl, rfl, rfl, trivial⟩ (cs := [iV 0, iV 1, iV 1, iV 5]) (by kernel_rfl) rfl ?_;clear S;intro a w3 b1 hz1 hk1 S
    obtain ⟨r1, hr1, h⟩ := bindE h
    refine l_enter1 2 S (b := O) rfl rfl (fun _ => .blk O [U, iV r1.2] 25) (fun _ => run_call (vs := [.pointer (some ⟨O, 0, none⟩), .slice (some ⟨b1, 0, none⟩) 4 4]) ⟨(S.tm rfl), (S.tm rfl), trivial⟩ Tryz.call18) (Stream_Pick_ok _ O U Af (Ag.mono (S.le_arg (fp_sub (i := 2) (e := .blk O [U, iV x2] 25) rfl))) x2 (S.holds _ (List.mem_of_getElem? (i := 2) rfl)) (.slice (some ⟨b1, 0, none⟩) 4 4) [0, 1, 1, 5] (lit_slcT enc_int S (i := 0) rfl rfl rfl rfl ((ne_fp (i := 2) (j := 0) (e := .blk O [U, iV x2] 25) (e' := .blk b1 [iV 0, iV 1, iV 1, iV 5] 3) S rfl rfl rfl) _ rfl)) _ hr1) rfl (fun _ _ _ h => ⟨h.1, fun _ hc => by cases hc;rfl⟩) ?_;clear S;intro v2 a w4 hv1 hk2 hn1 S
    replace hv1 := hv1.2
    subst hv1
    refine lv S (rn_add (S.tm rfl) (S.tm rfl)) rfl ?_;clear S;intro a S
    refine lv S (Ra (S.tm rfl)) rfl ?_;clear S;intro a S
    refine Ld (Tn (Fs (Fg (lv S (Rm (S.tm rfl)) rfl ?_))));clear S;intro a S
    refine lv S (Rm (S.tm rfl)) rfl ?_;clear S;intro a S
    obtain ⟨r2, hr2, h⟩ := bindE h
    refine l_enter1 2 S (b := O) rfl rfl (fun _ => .blk O [U, iV r2.2] 25) (fun _ => run_call (vs := [.pointer (some ⟨O, 0, none⟩), iV (W (x3 + r1.1))]) ⟨(S.tm rfl), (S.tm rfl), trivial⟩ Tryz.call36) (Stream_SwumStep_ok _ O U Af (Ag.mono (S.le_arg (fp_sub (i := 2) (e := .blk O [U, iV r1.2] 25) rfl))) r1.2 (S.holds _ (List.mem_of_getElem? (i := 2) rfl)) (W (x3 + r1.1)) _ hr2) rfl (fun _ _ _ h => ⟨h.1, fun _ hc => by cases hc;rfl⟩) ?_;clear S;intro v3 a w5 hv2 hk3 hn2 S
    replace hv2 := hv2.2
    subst hv2
    refine l_alloc S Tryz.zeroValue35 (cs := [iV 0, iV 0, sV k_empty, sV k_empty, sV k_empty, sV k_empty, iV 0, iV 0]) rfl rfl ?_;clear S;intro a w6 b2 hz2 hk4 S
    refine l_store S (S.tm rfl) (S.tm rfl) (i := 0) (off := 0) rfl Tryz.sizeOf35 (vs := (GStep.enc r2.1)) rfl rfl rfl rfl ?_;clear S;intro w7 hk5 S
    refine Ld ?_
    replace S := S.nk [.blk b2 (GStep.enc r2.1) 35, .own v1 35 8 x1.length (x1.flatMap GStep.enc), .blk O [U, iV r2.2] 25] [(0, .pointer (some ⟨O, 0, none⟩)), (5, v1), (6, iV (W (x3 + r1.1))), (7, .pointer (some ⟨b2, 0, none⟩)), (8, iV Ar), (9, iV x4)] [true, false, true, true] rfl (subR rfl)
    refine Tn (Fs (Fs (Fg (lv S (Rm (S.tm rfl)) rfl ?_))));clear S;intro a S
    obtain ⟨r3, hr3, h⟩ := bindE h
    refine l_enter1 2 S (b := O) rfl rfl (fun _ => .blk O [U, iV r3.2] 25) (fun _ => run_call (vs := [.pointer (some ⟨O, 0, none⟩), iV 3]) ⟨(S.tm rfl), rfl, trivial⟩ Tryz.call16) (Stream_Flip_ok _ O U Af (Ag.mono (S.le_arg (fp_sub (i := 2) (e := .blk O [U, iV r2.2] 25) rfl))) r2.2 (S.holds _ (List.mem_of_getElem? (i := 2) rfl)) 3 _ hr3) rfl (fun _ _ _ h => ⟨h.1, fun _ hc => by cases hc;rfl⟩) ?_;clear S;intro v4 a w8 hv3 hk6 hn3 S
    replace hv3 := hv3.2
    subst hv3
    refine Ld (Tn ?_)
    obtain ⟨j2, hj2, h⟩ := joinE h
    refine f_join (fun a w' => ∃ x5 : Int, ∃ x6 : Int, ∃ x7 : ByteArray, ∃ x8 : ByteArray, ∃ x9 : ByteArray, ∃ x10 : Int, ∃ x11 : Int, ∃ x12 : Int, j2 x5 x6 x7 x8 x9 x10 x11 x12 = some r ∧ Sx w [O] nov [.blk b2 (GStep.enc (GStep.mk x5 x6 r2.1.Id x7 x8 x9 x10 x11)) 35, .own v1 35 8 x1.length (x1.flatMap GStep.enc), .blk O [U, iV x12] 25] [(0, .pointer (some ⟨O, 0, none⟩)), (5, v1), (6, iV (W (x3 + r1.1))), (7, .pointer (some ⟨b2, 0, none⟩)), (8, iV Ar), (9, iV x4)] 83 a w') ?_ ?_
    ·refine f_cond (S.tm rfl) (fun hb2 => ?_) (fun hb2 => ?_)
     ·replace h := iteT h hb2
      obtain ⟨r4, hr4, h⟩ := bindE h
      refine d_region [7] ([O]) Tryz.mixed S rfl (by kernel_rfl) ?_;clear S;intro w13 hk10 hsel S
      refine d_pure 0 S hsel rfl rfl (by kernel_rfl) (by kernel_rfl) rfl (fun _ => (Rm (S.tm rfl))) ?_;clear S;intro a S
      refine d_pure 1 S hsel rfl rfl (by kernel_rfl) (by kernel_rfl) rfl (fun _ => (Rm (S.tm rfl))) ?_;clear S;intro a S
      refine d_pure 4 S hsel rfl rfl (by kernel_rfl) (by kernel_rfl) rfl (fun _ => (rn_fld fa_35_2 (S.tm rfl))) ?_;clear S;intro a S
      refine d_quiet 5 S hsel rfl (by kernel_rfl) (by kernel_rfl) (by kernel_rfl) (by kernel_rfl) rfl (fun _ hw => (rn_ld Tryz.isAgg9 (off := 0) (o := 2) (S.tm rfl) ((S.blk_mem (i := 0) (cells := (GStep.enc r2.1)) (b := b2) (T := 35) rfl (ne_fp (i := 2) (j := 0) (e := .blk O [U, iV r3.2] 25) (e' := .blk b2 (GStep.enc r2.1) 35) S rfl rfl rfl)).kept hw) rfl)) ?_;clear S;intro a S
      refine d_loud1 2 (by kernel_rfl) rfl (l_buildSlice S Tryz.underlying22 Tryz.sizeOf3 Tryz.zeroValue3 rfl rfl (pv := [(0, iV 2), (1, iV 3)]) ⟨rfl, rfl, rfl, rfl, trivial⟩ (cs := [iV 2, iV 3]) (by kernel_rfl) rfl ?_);clear S;intro a w14 b4 hz4 hk11 S
      refine Ld (d_next (Keep.none hk11) (d_loud1 3 (by kernel_rfl) rfl ?_))
      refine l_enter1 3 S (b := O) rfl rfl (fun _ => .blk O [U, iV r4.2] 25) (fun _ => run_call (vs := [.pointer (some ⟨O, 0, none⟩), .slice (some ⟨b4, 0, none⟩) 2 2]) ⟨(S.tm rfl), (S.tm rfl), trivial⟩ Tryz.call18) (Stream_Pick_ok _ O U Af (Ag.mono (S.le_arg (fp_sub (i := 3) (e := .blk O [U, iV r3.2] 25) rfl))) r3.2 (S.holds _ (List.mem_of_getElem? (i := 3) rfl)) (.slice (some ⟨b4, 0, none⟩) 2 2) [2, 3] (lit_slcT enc_int S (i := 0) rfl rfl rfl rfl ((ne_fp (i := 3) (j := 0) (e := .blk O [U, iV r3.2] 25) (e' := .blk b4 [iV 2, iV 3] 3) S rfl rfl rfl) _ rfl)) _ hr4) rfl (fun _ _ _ h => ⟨h.1, fun _ hc => by cases hc;rfl⟩) ?_;clear S;intro v6 a w15 hv5 hk12 hn5 S
      replace hv5 := hv5.2
      subst hv5
      refine Ld (d_next hk12 (d_pure 6 S hsel rfl rfl (by kernel_rfl) (by kernel_rfl) rfl (fun _ => (rn_bld bt_35 (pv := [(0, iV (W (x3 + r1.1))), (1, iV r4.1), (2, sV r2.1.Id)]) ⟨rfl, (S.tm rfl), rfl, (S.tm rfl), rfl, (S.tm rfl), trivial⟩ (cs := [iV (W (x3 + r1.1)), iV r4.1, sV r2.1.Id, sV k_empty, sV k_empty, sV k_empty, iV 0, iV 0]) (by kernel_rfl))) ?_));clear S;intro a S
      refine d_loudB 7 ([O] ++ [b2]) rfl (by kernel_rfl) rfl (l_store S (S.tm rfl) (S.tm rfl) (i := 1) (off := 0) rfl Tryz.sizeOf35 (vs := (GStep.enc (GStep.mk (W (x3 + r1.1)) r4.1 r2.1.Id k_empty k_empty k_empty 0 0))) rfl rfl rfl rfl ?_);clear S;intro w16 hk13 S
      refine Ld (d_nextB (d_end (by kernel_rfl) ?_))
      clear hsel
      replace S := S.nk [.blk b2 (GStep.enc (GStep.mk (W (x3 + r1.1)) r4.1 r2.1.Id k_empty k_empty k_empty 0 0)) 35, .own v1 35 8 x1.length (x1.flatMap GStep.enc), .blk O [U, iV r4.2] 25] [(0, .pointer (some ⟨O, 0, none⟩)), (5, v1), (6, iV (W (x3 + r1.1))), (7, .pointer (some ⟨b2, 0, none⟩)), (8, iV Ar), (9, iV x4)] [false, true, true, true] rfl (subR rfl)
      refine Tn ?_
      exact ⟨W (x3 + r1.1), r4.1, k_empty, k_empty, k_empty, 0, 0, r4.2, h, S.nf [true, true, true] rfl (subR rfl)⟩
     ·replace h := iteF h hb2
      refine wp_skip (Tn ?_)
      exact ⟨r2.1.At, r2.1.Kind, r2.1.Who, r2.1.Club, r2.1.Race, r2.1.Age, r2.1.Time, r3.2, h, S.nf [true, true, true] rfl (subR rfl)⟩
    clear S h;rintro a w9 ⟨x5, x6, x7, x8, x9, x10, x11, x12, h, S⟩;rw [hj2] at h;clear hj2 j2
    refine Tn (Fs (Fs (Fg (lv S (Rm (S.tm rfl)) rfl ?_))));clear S;intro a S
    obtain ⟨r5, hr5, h⟩ := bindE h
    refine l_enter1 2 S (b := O) rfl rfl (fun _ => .blk O [U, iV r5.2] 25) (fun _ => run_call (vs := [.pointer (some ⟨O, 0, none⟩), iV 80]) ⟨(S.tm rfl), rfl, trivial⟩ Tryz.call16) (Stream_Flip_ok _ O U Af (Ag.mono (S.le_arg (fp_sub (i := 2) (e := .blk O [U, iV x12] 25) rfl))) x12 (S.holds _ (List.mem_of_getElem? (i := 2) rfl)) 80 _ hr5) rfl (fun _ _ _ h => ⟨h.1, fun _ hc => by cases hc;rfl⟩) ?_;clear S;intro v7 a w17 hv6 hk14 hn6 S
    replace hv6 := hv6.2
    subst hv6
    refine Ld (Tn ?_)
    obtain ⟨j3, hj3, h⟩ := joinE h
    refine f_join (fun a w' => ∃ x13 : Int, ∃ x14 : Int, ∃ x15 : ByteArray, ∃ x16 : ByteArray, ∃ x17 : ByteArray, ∃ x18 : ByteArray, ∃ x19 : Int, ∃ x20 : Int, ∃ x21 : Int, j3 x13 x14 x15 x16 x17 x18 x19 x20 x21 = some r ∧ Sx w [O] nov [.blk b2 (GStep.enc (GStep.mk x13 x14 x15 x16 x17 x18 x19 x20)) 35, .own v1 35 8 x1.length (x1.flatMap GStep.enc), .blk O [U, iV x21] 25] [(0, .pointer (some ⟨O, 0, none⟩)), (5, v1), (6, iV (W (x3 + r1.1))), (7, .pointer (some ⟨b2, 0, none⟩)), (8, iV Ar), (9, iV x4)] 83 a w') ?_ ?_
    ·refine f_cond (S.tm rfl) (fun hb3 => ?_) (fun hb3 => ?_)
     ·replace h := iteT h hb3
      refine Fs (Fg (lv S (Rm (S.tm rfl)) rfl ?_));clear S;intro a S
      obtain ⟨r6, hr6, h⟩ := bindE h
      refine l_enter1 2 S (b := O) rfl rfl (fun _ => .blk O [U, iV r6.2] 25) (fun _ => run_call (vs := [.pointer (some ⟨O, 0, none⟩), iV 4]) ⟨(S.tm rfl), rfl, trivial⟩ Tryz.call21) (Stream_Next_ok _ O U Af (Ag.mono (S.le_arg (fp_sub (i := 2) (e := .blk O [U, iV r5.2] 25) rfl))) r5.2 (S.holds _ (List.mem_of_getElem? (i := 2) rfl)) 4 _ hr6) rfl (fun _ _ _ h => ⟨h.1, fun _ hc => by cases hc;rfl⟩) ?_;clear S;intro v8 a w19 hv7 hk15 hn7 S
      replace hv7 := hv7.2
      subst hv7
      refine Ld (Tn ?_)
      obtain ⟨j4, hj4, h⟩ := joinE h
      refine f_join (fun a w' => ∃ x22 : Int, ∃ x23 : Int, ∃ x24 : ByteArray, ∃ x25 : ByteArray, ∃ x26 : ByteArray, ∃ x27 : ByteArray, ∃ x28 : Int, ∃ x29 : Int, ∃ x30 : Int, j4 x22 x23 x24 x25 x26 x27 x28 x29 x30 = some r ∧ Sx w [O] nov [.blk b2 (GStep.enc (GStep.mk x22 x23 x24 x25 x26 x27 x28 x29)) 35, .own v1 35 8 x1.length (x1.flatMap GStep.enc), .blk O [U, iV x30] 25] [(0, .pointer (some ⟨O, 0, none⟩)), (5, v1), (6, iV (W (x3 + r1.1))), (7, .pointer (some ⟨b2, 0, none⟩)), (8, iV Ar), (9, iV x4)] 83 a w') ?_ ?_
      ·refine wp_block (Fs (Fg (lv S (rn_eql (S.tm rfl) rfl) rfl ?_)));clear S;intro a S
       refine lv S (Ra (S.tm rfl)) rfl ?_;clear S;intro a S
       refine Ld (Tn ?_)
       obtain ⟨j5, hj5, h⟩ := joinE h
       refine f_join (fun a w' => ∃ x31 : Int, ∃ x32 : Int, ∃ x33 : ByteArray, ∃ x34 : ByteArray, ∃ x35 : ByteArray, ∃ x36 : ByteArray, ∃ x37 : Int, ∃ x38 : Int, ∃ x39 : Int, j5 x31 x32 x33 x34 x35 x36 x37 x38 x39 = some r ∧ Sx w [O] nov [.blk b2 (GStep.enc (GStep.mk x31 x32 x33 x34 x35 x36 x37 x38)) 35, .own v1 35 8 x1.length (x1.flatMap GStep.enc), .blk O [U, iV x39] 25] [(0, .pointer (some ⟨O, 0, none⟩)), (5, v1), (6, iV (W (x3 + r1.1))), (7, .pointer (some ⟨b2, 0, none⟩)), (8, iV Ar), (9, iV x4)] 83 a w') ?_ ?_
       ·refine f_cond (S.tm rfl) (fun hb4 => ?_) (fun hb4 => ?_)
        ·replace h := iteT h hb4
         refine Fg (lv S (Rm (S.tm rfl)) rfl ?_);clear S;intro a S
         obtain ⟨r7, hr7, h⟩ := bindE h
         refine l_enter1 2 S (b := O) rfl rfl (fun _ => .blk O [U, iV r7.2] 25) (fun _ => run_call (vs := [.pointer (some ⟨O, 0, none⟩), iV 0, iV 50]) ⟨(S.tm rfl), rfl, rfl, trivial⟩ Tryz.call37) (Stream_Odd_ok _ O U Af (Ag.mono (S.le_arg (fp_sub (i := 2) (e := .blk O [U, iV r6.2] 25) rfl))) r6.2 (S.holds _ (List.mem_of_getElem? (i := 2) rfl)) 0 50 _ hr7) rfl (fun _ _ _ h => ⟨h.1, fun _ hc => by cases hc;rfl⟩) ?_;clear S;intro v9 a w22 hv8 hk16 hn8 S
         replace hv8 := hv8.2
         subst hv8
         refine lv S (Rm (S.tm rfl)) rfl ?_;clear S;intro a S
         obtain ⟨r8, hr8, h⟩ := bindE h
         refine l_enter1 2 S (b := O) rfl rfl (fun _ => .blk O [U, iV r8.2] 25) (fun _ => run_call (vs := [.pointer (some ⟨O, 0, none⟩), iV 1, iV 3]) ⟨(S.tm rfl), rfl, rfl, trivial⟩ Tryz.call37) (Stream_Odd_ok _ O U Af (Ag.mono (S.le_arg (fp_sub (i := 2) (e := .blk O [U, iV r7.2] 25) rfl))) r7.2 (S.holds _ (List.mem_of_getElem? (i := 2) rfl)) 1 3 _ hr8) rfl (fun _ _ _ h => ⟨h.1, fun _ hc => by cases hc;rfl⟩) ?_;clear S;intro v10 a w23 hv9 hk17 hn9 S
         replace hv9 := hv9.2
         subst hv9
         refine lv S (rn_fld fa_35_0 (S.tm rfl)) rfl ?_;clear S;intro a S
         refine l_store S (S.tm rfl) (S.tm rfl) (i := 0) (off := 0) rfl Tryz.sizeOf3 (vs := [iV r7.1]) rfl rfl rfl rfl ?_;clear S;intro w24 hk18 S
         refine lv S (rn_fld fa_35_1 (S.tm rfl)) rfl ?_;clear S;intro a S
         refine l_store S (S.tm rfl) (S.tm rfl) (i := 0) (off := 1) rfl Tryz.sizeOf3 (vs := [iV r8.1]) rfl rfl rfl rfl ?_;clear S;intro w25 hk19 S
         refine Ld ?_
         replace S := S.nk [.blk b2 (GStep.enc (GStep.mk r7.1 r8.1 r2.1.Id x7 x8 x9 x10 x11)) 35, .own v1 35 8 x1.length (x1.flatMap GStep.enc), .blk O [U, iV r8.2] 25] [(0, .pointer (some ⟨O, 0, none⟩)), (5, v1), (6, iV (W (x3 + r1.1))), (7, .pointer (some ⟨b2, 0, none⟩)), (8, iV Ar), (9, iV x4)] [true, true, true] rfl (subR rfl)
         refine Tn ?_
         exact ⟨r7.1, r8.1, r2.1.Id, x7, x8, x9, x10, x11, r8.2, h, S.nf [true, true, true] rfl (subR rfl)⟩
        ·replace h := iteF h hb4
         refine Fs (Fg (lv S (rn_eql (S.tm rfl) rfl) rfl ?_));clear S;intro a S
         refine lv S (Ra (S.tm rfl)) rfl ?_;clear S;intro a S
         refine Ld (Tn ?_)
         obtain ⟨j6, hj6, h⟩ := joinE h
         refine f_join (fun a w' => ∃ x40 : ByteArray, ∃ x41 : ByteArray, ∃ x42 : ByteArray, ∃ x43 : ByteArray, ∃ x44 : Int, ∃ x45 : Int, ∃ x46 : Int, j6 x40 x41 x42 x43 x44 x45 x46 = some r ∧ Sx w [O] nov [.blk b2 (GStep.enc (GStep.mk x5 x6 x40 x41 x42 x43 x44 x45)) 35, .own v1 35 8 x1.length (x1.flatMap GStep.enc), .blk O [U, iV x46] 25] [(0, .pointer (some ⟨O, 0, none⟩)), (5, v1), (6, iV (W (x3 + r1.1))), (7, .pointer (some ⟨b2, 0, none⟩)), (8, iV Ar), (9, iV x4)] 83 a w') ?_ ?_
         ·refine f_cond (S.tm rfl) (fun hb5 => ?_) (fun hb5 => ?_)
          ·replace h := iteT h hb5
           obtain ⟨j7, hj7, h⟩ := joinE h
           refine f_join (fun a w' => ∃ x47 : ByteArray, ∃ x48 : ByteArray, ∃ x49 : Int, j7 x47 x48 x49 = some r ∧ Sx w [O] nov [.blk b2 (GStep.enc (GStep.mk x5 x6 x47 x48 x8 x9 x10 x11)) 35, .own v1 35 8 x1.length (x1.flatMap GStep.enc), .blk O [U, iV x49] 25] [(0, .pointer (some ⟨O, 0, none⟩)), (5, v1), (6, iV (W (x3 + r1.1))), (7, .pointer (some ⟨b2, 0, none⟩)), (8, iV Ar), (9, iV x4)] 83 a w') ?_ ?_
           ·obtain ⟨r9, hr9, h⟩ := bindE h
            obtain ⟨r10, hr10, h⟩ := bindE h
            refine d_region [11, 13] ([O]) Tryz.mixed S rfl (by kernel_rfl) ?_;clear S;intro w34 hk26 hsel S
            refine d_pure 0 S hsel rfl rfl (by kernel_rfl) (by kernel_rfl) rfl (fun _ => (Rm (S.tm rfl))) ?_;clear S;intro a S
            refine d_pure 1 S hsel rfl rfl (by kernel_rfl) (by kernel_rfl) rfl (fun _ => (rn_fld fa_35_2 (S.tm rfl))) ?_;clear S;intro a S
            refine d_quiet 2 S hsel rfl (by kernel_rfl) (by kernel_rfl) (by kernel_rfl) (by kernel_rfl) rfl (fun _ hw => (rn_ld Tryz.isAgg9 (off := 0) (o := 2) (S.tm rfl) ((S.blk_mem (i := 0) (cells := (GStep.enc (GStep.mk x5 x6 r2.1.Id x7 x8 x9 x10 x11))) (b := b2) (T := 35) rfl (ne_fp (i := 2) (j := 0) (e := .blk O [U, iV r6.2] 25) (e' := .blk b2 (GStep.enc (GStep.mk x5 x6 r2.1.Id x7 x8 x9 x10 x11)) 35) S rfl rfl rfl)).kept hw) rfl)) ?_;clear S;intro a S
            refine d_pure 5 S hsel rfl rfl (by kernel_rfl) (by kernel_rfl) rfl (fun _ => (Rm (S.tm rfl))) ?_;clear S;intro a S
            refine d_pure 6 S hsel rfl rfl (by kernel_rfl) (by kernel_rfl) rfl (fun _ => (rn_fld fa_35_3 (S.tm rfl))) ?_;clear S;intro a S
            refine d_quiet 7 S hsel rfl (by kernel_rfl) (by kernel_rfl) (by kernel_rfl) (by kernel_rfl) rfl (fun _ hw => (rn_ld Tryz.isAgg9 (off := 0) (o := 3) (S.tm rfl) ((S.blk_mem (i := 0) (cells := (GStep.enc (GStep.mk x5 x6 r2.1.Id x7 x8 x9 x10 x11))) (b := b2) (T := 35) rfl (ne_fp (i := 2) (j := 0) (e := .blk O [U, iV r6.2] 25) (e' := .blk b2 (GStep.enc (GStep.mk x5 x6 r2.1.Id x7 x8 x9 x10 x11)) 35) S rfl rfl rfl)).kept hw) rfl)) ?_;clear S;intro a S
            refine d_loud2 3 8 (by kernel_rfl) rfl rfl ?_ ?_
            ·refine l_buildSlice S Tryz.underlying51 Tryz.sizeOf9 Tryz.zeroValue9 rfl rfl (pv := [(0, sV k_empty), (1, sV r2.1.Id), (2, sV k_A)]) ⟨rfl, rfl, rfl, (S.tm rfl), rfl, rfl, trivial⟩ (cs := [sV k_empty, sV r2.1.Id, sV k_A]) (by kernel_rfl) rfl ?_;clear S;intro a w35 b7 hz7 hk27 S
             refine Ld (d_next (Keep.none hk27) (d_loud2 4 8 (by kernel_rfl) rfl rfl ?_ ?_))
             ·refine l_enter1 3 S (b := O) rfl rfl (fun _ => .blk O [U, iV r9.2] 25) (fun _ => run_call (vs := [.pointer (some ⟨O, 0, none⟩), .slice (some ⟨b7, 0, none⟩) 3 3]) ⟨(S.tm rfl), (S.tm rfl), trivial⟩ Tryz.call17) (Stream_Some_ok _ O U Af (Ag.mono (S.le_arg (fp_sub (i := 3) (e := .blk O [U, iV r6.2] 25) rfl))) r6.2 (S.holds _ (List.mem_of_getElem? (i := 3) rfl)) (.slice (some ⟨b7, 0, none⟩) 3 3) [k_empty, r2.1.Id, k_A] (lit_slcT enc_str S (i := 0) rfl rfl rfl rfl ((ne_fp (i := 3) (j := 0) (e := .blk O [U, iV r6.2] 25) (e' := .blk b7 [sV k_empty, sV r2.1.Id, sV k_A] 9) S rfl rfl rfl) _ rfl)) _ hr9) rfl (fun _ _ _ h => ⟨h.1, fun _ hc => by cases hc;rfl⟩) ?_;clear S;intro v13 a w36 hv12 hk28 hn12 S
              replace hv12 := hv12.2
              subst hv12
              refine Ld (d_next hk28 (d_pure 10 S hsel rfl rfl (by kernel_rfl) (by kernel_rfl) rfl (fun _ => (rn_fld fa_35_2 (S.tm rfl))) ?_));clear S;intro a S
              refine d_loud1 8 (by kernel_rfl) rfl (l_buildSlice S Tryz.underlying51 Tryz.sizeOf9 Tryz.zeroValue9 rfl rfl (pv := [(0, sV k_empty), (1, sV x7)]) ⟨rfl, rfl, rfl, (S.tm rfl), trivial⟩ (cs := [sV k_empty, sV x7]) (by kernel_rfl) rfl ?_);clear S;intro a w37 b8 hz8 hk29 S
              refine Ld (d_next (Keep.none hk29) (d_loud1 9 (by kernel_rfl) rfl ?_))
              refine l_enter1 4 S (b := O) rfl rfl (fun _ => .blk O [U, iV r10.2] 25) (fun _ => run_call (vs := [.pointer (some ⟨O, 0, none⟩), .slice (some ⟨b8, 0, none⟩) 2 2]) ⟨(S.tm rfl), (S.tm rfl), trivial⟩ Tryz.call17) (Stream_Some_ok _ O U Af (Ag.mono (S.le_arg (fp_sub (i := 4) (e := .blk O [U, iV r9.2] 25) rfl))) r9.2 (S.holds _ (List.mem_of_getElem? (i := 4) rfl)) (.slice (some ⟨b8, 0, none⟩) 2 2) [k_empty, x7] (lit_slcT enc_str S (i := 0) rfl rfl rfl rfl ((ne_fp (i := 4) (j := 0) (e := .blk O [U, iV r9.2] 25) (e' := .blk b8 [sV k_empty, sV x7] 9) S rfl rfl rfl) _ rfl)) _ hr10) rfl (fun _ _ _ h => ⟨h.1, fun _ hc => by cases hc;rfl⟩) ?_;clear S;intro v14 a w38 hv13 hk30 hn13 S
              replace hv13 := hv13.2
              subst hv13
              refine Ld (d_next hk30 (d_loudB 11 ([O] ++ [b2]) rfl (by kernel_rfl) rfl (l_store S (S.tm rfl) (S.tm rfl) (i := 2) (off := 2) rfl Tryz.sizeOf9 (vs := [sV r9.1]) rfl rfl rfl rfl ?_)));clear S;intro w39 hk31 S
              refine Ld (d_nextB (d_quiet 12 S hsel rfl rfl rfl (by kernel_rfl) (by kernel_rfl) rfl (fun _ hw => (rn_fld fa_35_3 (S.tm rfl))) ?_));clear S;intro a S
              refine d_loud1 13 (by kernel_rfl) rfl (l_store S (S.tm rfl) (S.tm rfl) (i := 2) (off := 3) rfl Tryz.sizeOf9 (vs := [sV r10.1]) rfl rfl rfl rfl ?_);clear S;intro w40 hk32 S
              refine Ld ?_
              refine d_next (hk32.sub (by intro y hy;simp at hy ⊢;simp [hy])) ?_
              refine d_end (by kernel_rfl) ?_
              clear hsel
              replace S := S.nk [.blk b2 (GStep.enc (GStep.mk x5 x6 r9.1 r10.1 x8 x9 x10 x11)) 35, .own v1 35 8 x1.length (x1.flatMap GStep.enc), .blk O [U, iV r10.2] 25] [(0, .pointer (some ⟨O, 0, none⟩)), (5, v1), (6, iV (W (x3 + r1.1))), (7, .pointer (some ⟨b2, 0, none⟩)), (8, iV Ar), (9, iV x4)] [false, false, true, true, true] rfl (subR rfl)
              refine Tn ?_
              exact ⟨r9.1, r10.1, r10.2, h, S.nf [true, true, true] rfl (subR rfl)⟩
             ·refine l_buildSlice S Tryz.underlying51 Tryz.sizeOf9 Tryz.zeroValue9 rfl rfl (pv := [(0, sV k_empty), (1, sV x7)]) ⟨rfl, rfl, rfl, (S.tm rfl), trivial⟩ (cs := [sV k_empty, sV x7]) (by kernel_rfl) rfl ?_;clear S;intro a w41 b9 hz9 hk33 S
              refine Ld (d_next (Keep.none hk33) (d_loud1 4 (by kernel_rfl) rfl ?_))
              refine l_enter1 4 S (b := O) rfl rfl (fun _ => .blk O [U, iV r9.2] 25) (fun _ => run_call (vs := [.pointer (some ⟨O, 0, none⟩), .slice (some ⟨b7, 0, none⟩) 3 3]) ⟨(S.tm rfl), (S.tm rfl), trivial⟩ Tryz.call17) (Stream_Some_ok _ O U Af (Ag.mono (S.le_arg (fp_sub (i := 4) (e := .blk O [U, iV r6.2] 25) rfl))) r6.2 (S.holds _ (List.mem_of_getElem? (i := 4) rfl)) (.slice (some ⟨b7, 0, none⟩) 3 3) [k_empty, r2.1.Id, k_A] (lit_slcT enc_str S (i := 1) rfl rfl rfl rfl ((ne_fp (i := 4) (j := 1) (e := .blk O [U, iV r6.2] 25) (e' := .blk b7 [sV k_empty, sV r2.1.Id, sV k_A] 9) S rfl rfl rfl) _ rfl)) _ hr9) rfl (fun _ _ _ h => ⟨h.1, fun _ hc => by cases hc;rfl⟩) ?_;clear S;intro v15 a w42 hv14 hk34 hn14 S
              replace hv14 := hv14.2
              subst hv14
              refine Ld (d_next hk34 (d_pure 10 S hsel rfl rfl (by kernel_rfl) (by kernel_rfl) rfl (fun _ => (rn_fld fa_35_2 (S.tm rfl))) ?_));clear S;intro a S
              refine d_loud1 9 (by kernel_rfl) rfl ?_
              refine l_enter1 4 S (b := O) rfl rfl (fun _ => .blk O [U, iV r10.2] 25) (fun _ => run_call (vs := [.pointer (some ⟨O, 0, none⟩), .slice (some ⟨b9, 0, none⟩) 2 2]) ⟨(S.tm rfl), (S.tm rfl), trivial⟩ Tryz.call17) (Stream_Some_ok _ O U Af (Ag.mono (S.le_arg (fp_sub (i := 4) (e := .blk O [U, iV r9.2] 25) rfl))) r9.2 (S.holds _ (List.mem_of_getElem? (i := 4) rfl)) (.slice (some ⟨b9, 0, none⟩) 2 2) [k_empty, x7] (lit_slcT enc_str S (i := 0) rfl rfl rfl rfl ((ne_fp (i := 4) (j := 0) (e := .blk O [U, iV r9.2] 25) (e' := .blk b9 [sV k_empty, sV x7] 9) S rfl rfl rfl) _ rfl)) _ hr10) rfl (fun _ _ _ h => ⟨h.1, fun _ hc => by cases hc;rfl⟩) ?_;clear S;intro v16 a w43 hv15 hk35 hn15 S
              replace hv15 := hv15.2
              subst hv15
              refine Ld (d_next hk35 (d_loudB 11 ([O] ++ [b2]) rfl (by kernel_rfl) rfl (l_store S (S.tm rfl) (S.tm rfl) (i := 2) (off := 2) rfl Tryz.sizeOf9 (vs := [sV r9.1]) rfl rfl rfl rfl ?_)));clear S;intro w44 hk36 S
              refine Ld (d_nextB (d_quiet 12 S hsel rfl rfl rfl (by kernel_rfl) (by kernel_rfl) rfl (fun _ hw => (rn_fld fa_35_3 (S.tm rfl))) ?_));clear S;intro a S
              refine d_loud1 13 (by kernel_rfl) rfl (l_store S (S.tm rfl) (S.tm rfl) (i := 2) (off := 3) rfl Tryz.sizeOf9 (vs := [sV r10.1]) rfl rfl rfl rfl ?_);clear S;intro w45 hk37 S
              refine Ld ?_
              refine d_next (hk37.sub (by intro y hy;simp at hy ⊢;simp [hy])) ?_
              refine d_end (by kernel_rfl) ?_
              clear hsel
              replace S := S.nk [.blk b2 (GStep.enc (GStep.mk x5 x6 r9.1 r10.1 x8 x9 x10 x11)) 35, .own v1 35 8 x1.length (x1.flatMap GStep.enc), .blk O [U, iV r10.2] 25] [(0, .pointer (some ⟨O, 0, none⟩)), (5, v1), (6, iV (W (x3 + r1.1))), (7, .pointer (some ⟨b2, 0, none⟩)), (8, iV Ar), (9, iV x4)] [false, false, true, true, true] rfl (subR rfl)
              refine Tn ?_
              exact ⟨r9.1, r10.1, r10.2, h, S.nf [true, true, true] rfl (subR rfl)⟩
            ·refine l_buildSlice S Tryz.underlying51 Tryz.sizeOf9 Tryz.zeroValue9 rfl rfl (pv := [(0, sV k_empty), (1, sV x7)]) ⟨rfl, rfl, rfl, (S.tm rfl), trivial⟩ (cs := [sV k_empty, sV x7]) (by kernel_rfl) rfl ?_;clear S;intro a w46 b10 hz10 hk38 S
             refine Ld (d_next (Keep.none hk38) (d_loud1 3 (by kernel_rfl) rfl (l_buildSlice S Tryz.underlying51 Tryz.sizeOf9 Tryz.zeroValue9 rfl rfl (pv := [(0, sV k_empty), (1, sV r2.1.Id), (2, sV k_A)]) ⟨rfl, rfl, rfl, (S.tm rfl), rfl, rfl, trivial⟩ (cs := [sV k_empty, sV r2.1.Id, sV k_A]) (by kernel_rfl) rfl ?_)));clear S;intro a w47 b11 hz11 hk39 S
             refine Ld (d_next (Keep.none hk39) (d_loud1 4 (by kernel_rfl) rfl ?_))
             refine l_enter1 4 S (b := O) rfl rfl (fun _ => .blk O [U, iV r9.2] 25) (fun _ => run_call (vs := [.pointer (some ⟨O, 0, none⟩), .slice (some ⟨b11, 0, none⟩) 3 3]) ⟨(S.tm rfl), (S.tm rfl), trivial⟩ Tryz.call17) (Stream_Some_ok _ O U Af (Ag.mono (S.le_arg (fp_sub (i := 4) (e := .blk O [U, iV r6.2] 25) rfl))) r6.2 (S.holds _ (List.mem_of_getElem? (i := 4) rfl)) (.slice (some ⟨b11, 0, none⟩) 3 3) [k_empty, r2.1.Id, k_A] (lit_slcT enc_str S (i := 0) rfl rfl rfl rfl ((ne_fp (i := 4) (j := 0) (e := .blk O [U, iV r6.2] 25) (e' := .blk b11 [sV k_empty, sV r2.1.Id, sV k_A] 9) S rfl rfl rfl) _ rfl)) _ hr9) rfl (fun _ _ _ h => ⟨h.1, fun _ hc => by cases hc;rfl⟩) ?_;clear S;intro v17 a w48 hv16 hk40 hn16 S
             replace hv16 := hv16.2
             subst hv16
             refine Ld (d_next hk40 (d_pure 10 S hsel rfl rfl (by kernel_rfl) (by kernel_rfl) rfl (fun _ => (rn_fld fa_35_2 (S.tm rfl))) ?_));clear S;intro a S
             refine d_loud1 9 (by kernel_rfl) rfl ?_
             refine l_enter1 4 S (b := O) rfl rfl (fun _ => .blk O [U, iV r10.2] 25) (fun _ => run_call (vs := [.pointer (some ⟨O, 0, none⟩), .slice (some ⟨b10, 0, none⟩) 2 2]) ⟨(S.tm rfl), (S.tm rfl), trivial⟩ Tryz.call17) (Stream_Some_ok _ O U Af (Ag.mono (S.le_arg (fp_sub (i := 4) (e := .blk O [U, iV r9.2] 25) rfl))) r9.2 (S.holds _ (List.mem_of_getElem? (i := 4) rfl)) (.slice (some ⟨b10, 0, none⟩) 2 2) [k_empty, x7] (lit_slcT enc_str S (i := 1) rfl rfl rfl rfl ((ne_fp (i := 4) (j := 1) (e := .blk O [U, iV r9.2] 25) (e' := .blk b10 [sV k_empty, sV x7] 9) S rfl rfl rfl) _ rfl)) _ hr10) rfl (fun _ _ _ h => ⟨h.1, fun _ hc => by cases hc;rfl⟩) ?_;clear S;intro v18 a w49 hv17 hk41 hn17 S
             replace hv17 := hv17.2
             subst hv17
             refine Ld (d_next hk41 (d_loudB 11 ([O] ++ [b2]) rfl (by kernel_rfl) rfl (l_store S (S.tm rfl) (S.tm rfl) (i := 2) (off := 2) rfl Tryz.sizeOf9 (vs := [sV r9.1]) rfl rfl rfl rfl ?_)));clear S;intro w50 hk42 S
             refine Ld (d_nextB (d_quiet 12 S hsel rfl rfl rfl (by kernel_rfl) (by kernel_rfl) rfl (fun _ hw => (rn_fld fa_35_3 (S.tm rfl))) ?_));clear S;intro a S
             refine d_loud1 13 (by kernel_rfl) rfl (l_store S (S.tm rfl) (S.tm rfl) (i := 2) (off := 3) rfl Tryz.sizeOf9 (vs := [sV r10.1]) rfl rfl rfl rfl ?_);clear S;intro w51 hk43 S
             refine Ld ?_
             refine d_next (hk43.sub (by intro y hy;simp at hy ⊢;simp [hy])) ?_
             refine d_end (by kernel_rfl) ?_
             clear hsel
             replace S := S.nk [.blk b2 (GStep.enc (GStep.mk x5 x6 r9.1 r10.1 x8 x9 x10 x11)) 35, .own v1 35 8 x1.length (x1.flatMap GStep.enc), .blk O [U, iV r10.2] 25] [(0, .pointer (some ⟨O, 0, none⟩)), (5, v1), (6, iV (W (x3 + r1.1))), (7, .pointer (some ⟨b2, 0, none⟩)), (8, iV Ar), (9, iV x4)] [false, false, true, true, true] rfl (subR rfl)
             refine Tn ?_
             exact ⟨r9.1, r10.1, r10.2, h, S.nf [true, true, true] rfl (subR rfl)⟩
           clear S h;rintro a w27 ⟨x47, x48, x49, h, S⟩;rw [hj7] at h;clear hj7 j7
           refine Tn ?_
           exact ⟨x47, x48, x8, x9, x10, x11, x49, h, S.nf [true, true, true] rfl (subR rfl)⟩
          ·replace h := iteF h hb5
           refine Fs (Fg (lv S (rn_eql (S.tm rfl) rfl) rfl ?_));clear S;intro a S
           refine lv S (Ra (S.tm rfl)) rfl ?_;clear S;intro a S
           refine Ld ?_
           replace S := S.nk [.blk b2 (GStep.enc (GStep.mk x5 x6 r2.1.Id x7 x8 x9 x10 x11)) 35, .own v1 35 8 x1.length (x1.flatMap GStep.enc), .blk O [U, iV r6.2] 25] [(0, .pointer (some ⟨O, 0, none⟩)), (5, v1), (6, iV (W (x3 + r1.1))), (7, .pointer (some ⟨b2, 0, none⟩)), (8, iV Ar), (9, iV x4), (60, bV (decide (r6.1 = 2)))] [true, true, true] rfl (subR rfl)
           refine Tn ?_
           obtain ⟨j8, hj8, h⟩ := joinE h
           refine f_join (fun a w' => ∃ x50 : ByteArray, ∃ x51 : ByteArray, ∃ x52 : Int, ∃ x53 : Int, ∃ x54 : Int, j8 x50 x51 x52 x53 x54 = some r ∧ Sx w [O] nov [.blk b2 (GStep.enc (GStep.mk x5 x6 r2.1.Id x7 x50 x51 x52 x53)) 35, .own v1 35 8 x1.length (x1.flatMap GStep.enc), .blk O [U, iV x54] 25] [(0, .pointer (some ⟨O, 0, none⟩)), (5, v1), (6, iV (W (x3 + r1.1))), (7, .pointer (some ⟨b2, 0, none⟩)), (8, iV Ar), (9, iV x4)] 83 a w') ?_ ?_
           ·refine f_cond (S.tm rfl) (fun hb6 => ?_) (fun hb6 => ?_)
            ·replace h := iteT h hb6
             obtain ⟨j9, hj9, h⟩ := joinE h
             refine f_join (fun a w' => ∃ x55 : ByteArray, ∃ x56 : ByteArray, ∃ x57 : Int, j9 x55 x56 x57 = some r ∧ Sx w [O] nov [.blk b2 (GStep.enc (GStep.mk x5 x6 r2.1.Id x7 x55 x56 x10 x11)) 35, .own v1 35 8 x1.length (x1.flatMap GStep.enc), .blk O [U, iV x57] 25] [(0, .pointer (some ⟨O, 0, none⟩)), (5, v1), (6, iV (W (x3 + r1.1))), (7, .pointer (some ⟨b2, 0, none⟩)), (8, iV Ar), (9, iV x4)] 83 a w') ?_ ?_
             ·obtain ⟨r11, hr11, h⟩ := bindE h
              obtain ⟨r12, hr12, h⟩ := bindE h
              refine d_region [11, 13] ([O]) Tryz.mixed S rfl (by kernel_rfl) ?_;clear S;intro w60 hk50 hsel S
              refine d_pure 0 S hsel rfl rfl (by kernel_rfl) (by kernel_rfl) rfl (fun _ => (Rm (S.tm rfl))) ?_;clear S;intro a S
              refine d_pure 1 S hsel rfl rfl (by kernel_rfl) (by kernel_rfl) rfl (fun _ => (rn_fld fa_35_4 (S.tm rfl))) ?_;clear S;intro a S
              refine d_quiet 2 S hsel rfl (by kernel_rfl) (by kernel_rfl) (by kernel_rfl) (by kernel_rfl) rfl (fun _ hw => (rn_ld Tryz.isAgg9 (off := 0) (o := 4) (S.tm rfl) ((S.blk_mem (i := 0) (cells := (GStep.enc (GStep.mk x5 x6 r2.1.Id x7 x8 x9 x10 x11))) (b := b2) (T := 35) rfl (ne_fp (i := 2) (j := 0) (e := .blk O [U, iV r6.2] 25) (e' := .blk b2 (GStep.enc (GStep.mk x5 x6 r2.1.Id x7 x8 x9 x10 x11)) 35) S rfl rfl rfl)).kept hw) rfl)) ?_;clear S;intro a S
              refine d_pure 5 S hsel rfl rfl (by kernel_rfl) (by kernel_rfl) rfl (fun _ => (Rm (S.tm rfl))) ?_;clear S;intro a S
              refine d_pure 6 S hsel rfl rfl (by kernel_rfl) (by kernel_rfl) rfl (fun _ => (rn_fld fa_35_5 (S.tm rfl))) ?_;clear S;intro a S
              refine d_quiet 7 S hsel rfl (by kernel_rfl) (by kernel_rfl) (by kernel_rfl) (by kernel_rfl) rfl (fun _ hw => (rn_ld Tryz.isAgg9 (off := 0) (o := 5) (S.tm rfl) ((S.blk_mem (i := 0) (cells := (GStep.enc (GStep.mk x5 x6 r2.1.Id x7 x8 x9 x10 x11))) (b := b2) (T := 35) rfl (ne_fp (i := 2) (j := 0) (e := .blk O [U, iV r6.2] 25) (e' := .blk b2 (GStep.enc (GStep.mk x5 x6 r2.1.Id x7 x8 x9 x10 x11)) 35) S rfl rfl rfl)).kept hw) rfl)) ?_;clear S;intro a S
              refine d_loud2 3 8 (by kernel_rfl) rfl rfl ?_ ?_
              ·refine l_buildSlice S Tryz.underlying51 Tryz.sizeOf9 Tryz.zeroValue9 rfl rfl (pv := [(0, sV k_A), (1, sV x8)]) ⟨rfl, rfl, rfl, (S.tm rfl), trivial⟩ (cs := [sV k_A, sV x8]) (by kernel_rfl) rfl ?_;clear S;intro a w61 b14 hz14 hk51 S
               refine Ld (d_next (Keep.none hk51) (d_loud2 4 8 (by kernel_rfl) rfl rfl ?_ ?_))
               ·refine l_enter1 3 S (b := O) rfl rfl (fun _ => .blk O [U, iV r11.2] 25) (fun _ => run_call (vs := [.pointer (some ⟨O, 0, none⟩), .slice (some ⟨b14, 0, none⟩) 2 2]) ⟨(S.tm rfl), (S.tm rfl), trivial⟩ Tryz.call17) (Stream_Some_ok _ O U Af (Ag.mono (S.le_arg (fp_sub (i := 3) (e := .blk O [U, iV r6.2] 25) rfl))) r6.2 (S.holds _ (List.mem_of_getElem? (i := 3) rfl)) (.slice (some ⟨b14, 0, none⟩) 2 2) [k_A, x8] (lit_slcT enc_str S (i := 0) rfl rfl rfl rfl ((ne_fp (i := 3) (j := 0) (e := .blk O [U, iV r6.2] 25) (e' := .blk b14 [sV k_A, sV x8] 9) S rfl rfl rfl) _ rfl)) _ hr11) rfl (fun _ _ _ h => ⟨h.1, fun _ hc => by cases hc;rfl⟩) ?_;clear S;intro v21 a w62 hv20 hk52 hn20 S
                replace hv20 := hv20.2
                subst hv20
                refine Ld (d_next hk52 (d_pure 10 S hsel rfl rfl (by kernel_rfl) (by kernel_rfl) rfl (fun _ => (rn_fld fa_35_4 (S.tm rfl))) ?_));clear S;intro a S
                refine d_loud1 8 (by kernel_rfl) rfl (l_buildSlice S Tryz.underlying51 Tryz.sizeOf9 Tryz.zeroValue9 rfl rfl (pv := [(0, sV k_empty), (1, sV x9)]) ⟨rfl, rfl, rfl, (S.tm rfl), trivial⟩ (cs := [sV k_empty, sV x9]) (by kernel_rfl) rfl ?_);clear S;intro a w63 b15 hz15 hk53 S
                refine Ld (d_next (Keep.none hk53) (d_loud1 9 (by kernel_rfl) rfl ?_))
                refine l_enter1 4 S (b := O) rfl rfl (fun _ => .blk O [U, iV r12.2] 25) (fun _ => run_call (vs := [.pointer (some ⟨O, 0, none⟩), .slice (some ⟨b15, 0, none⟩) 2 2]) ⟨(S.tm rfl), (S.tm rfl), trivial⟩ Tryz.call17) (Stream_Some_ok _ O U Af (Ag.mono (S.le_arg (fp_sub (i := 4) (e := .blk O [U, iV r11.2] 25) rfl))) r11.2 (S.holds _ (List.mem_of_getElem? (i := 4) rfl)) (.slice (some ⟨b15, 0, none⟩) 2 2) [k_empty, x9] (lit_slcT enc_str S (i := 0) rfl rfl rfl rfl ((ne_fp (i := 4) (j := 0) (e := .blk O [U, iV r11.2] 25) (e' := .blk b15 [sV k_empty, sV x9] 9) S rfl rfl rfl) _ rfl)) _ hr12) rfl (fun _ _ _ h => ⟨h.1, fun _ hc => by cases hc;rfl⟩) ?_;clear S;intro v22 a w64 hv21 hk54 hn21 S
                replace hv21 := hv21.2
                subst hv21
                refine Ld (d_next hk54 (d_loudB 11 ([O] ++ [b2]) rfl (by kernel_rfl) rfl (l_store S (S.tm rfl) (S.tm rfl) (i := 2) (off := 4) rfl Tryz.sizeOf9 (vs := [sV r11.1]) rfl rfl rfl rfl ?_)));clear S;intro w65 hk55 S
                refine Ld (d_nextB (d_quiet 12 S hsel rfl rfl rfl (by kernel_rfl) (by kernel_rfl) rfl (fun _ hw => (rn_fld fa_35_5 (S.tm rfl))) ?_));clear S;intro a S
                refine d_loud1 13 (by kernel_rfl) rfl (l_store S (S.tm rfl) (S.tm rfl) (i := 2) (off := 5) rfl Tryz.sizeOf9 (vs := [sV r12.1]) rfl rfl rfl rfl ?_);clear S;intro w66 hk56 S
                refine Ld ?_
                refine d_next (hk56.sub (by intro y hy;simp at hy ⊢;simp [hy])) ?_
                refine d_end (by kernel_rfl) ?_
                clear hsel
                replace S := S.nk [.blk b2 (GStep.enc (GStep.mk x5 x6 r2.1.Id x7 r11.1 r12.1 x10 x11)) 35, .own v1 35 8 x1.length (x1.flatMap GStep.enc), .blk O [U, iV r12.2] 25] [(0, .pointer (some ⟨O, 0, none⟩)), (5, v1), (6, iV (W (x3 + r1.1))), (7, .pointer (some ⟨b2, 0, none⟩)), (8, iV Ar), (9, iV x4)] [false, false, true, true, true] rfl (subR rfl)
                refine Tn ?_
                exact ⟨r11.1, r12.1, r12.2, h, S.nf [true, true, true] rfl (subR rfl)⟩
               ·refine l_buildSlice S Tryz.underlying51 Tryz.sizeOf9 Tryz.zeroValue9 rfl rfl (pv := [(0, sV k_empty), (1, sV x9)]) ⟨rfl, rfl, rfl, (S.tm rfl), trivial⟩ (cs := [sV k_empty, sV x9]) (by kernel_rfl) rfl ?_;clear S;intro a w67 b16 hz16 hk57 S
                refine Ld (d_next (Keep.none hk57) (d_loud1 4 (by kernel_rfl) rfl ?_))
                refine l_enter1 4 S (b := O) rfl rfl (fun _ => .blk O [U, iV r11.2] 25) (fun _ => run_call (vs := [.pointer (some ⟨O, 0, none⟩), .slice (some ⟨b14, 0, none⟩) 2 2]) ⟨(S.tm rfl), (S.tm rfl), trivial⟩ Tryz.call17) (Stream_Some_ok _ O U Af (Ag.mono (S.le_arg (fp_sub (i := 4) (e := .blk O [U, iV r6.2] 25) rfl))) r6.2 (S.holds _ (List.mem_of_getElem? (i := 4) rfl)) (.slice (some ⟨b14, 0, none⟩) 2 2) [k_A, x8] (lit_slcT enc_str S (i := 1) rfl rfl rfl rfl ((ne_fp (i := 4) (j := 1) (e := .blk O [U, iV r6.2] 25) (e' := .blk b14 [sV k_A, sV x8] 9) S rfl rfl rfl) _ rfl)) _ hr11) rfl (fun _ _ _ h => ⟨h.1, fun _ hc => by cases hc;rfl⟩) ?_;clear S;intro v23 a w68 hv22 hk58 hn22 S
                replace hv22 := hv22.2
                subst hv22
                refine Ld (d_next hk58 (d_pure 10 S hsel rfl rfl (by kernel_rfl) (by kernel_rfl) rfl (fun _ => (rn_fld fa_35_4 (S.tm rfl))) ?_));clear S;intro a S
                refine d_loud1 9 (by kernel_rfl) rfl ?_
                refine l_enter1 4 S (b := O) rfl rfl (fun _ => .blk O [U, iV r12.2] 25) (fun _ => run_call (vs := [.pointer (some ⟨O, 0, none⟩), .slice (some ⟨b16, 0, none⟩) 2 2]) ⟨(S.tm rfl), (S.tm rfl), trivial⟩ Tryz.call17) (Stream_Some_ok _ O U Af (Ag.mono (S.le_arg (fp_sub (i := 4) (e := .blk O [U, iV r11.2] 25) rfl))) r11.2 (S.holds _ (List.mem_of_getElem? (i := 4) rfl)) (.slice (some ⟨b16, 0, none⟩) 2 2) [k_empty, x9] (lit_slcT enc_str S (i := 0) rfl rfl rfl rfl ((ne_fp (i := 4) (j := 0) (e := .blk O [U, iV r11.2] 25) (e' := .blk b16 [sV k_empty, sV x9] 9) S rfl rfl rfl) _ rfl)) _ hr12) rfl (fun _ _ _ h => ⟨h.1, fun _ hc => by cases hc;rfl⟩) ?_;clear S;intro v24 a w69 hv23 hk59 hn23 S
                replace hv23 := hv23.2
                subst hv23
                refine Ld (d_next hk59 (d_loudB 11 ([O] ++ [b2]) rfl (by kernel_rfl) rfl (l_store S (S.tm rfl) (S.tm rfl) (i := 2) (off := 4) rfl Tryz.sizeOf9 (vs := [sV r11.1]) rfl rfl rfl rfl ?_)));clear S;intro w70 hk60 S
                refine Ld (d_nextB (d_quiet 12 S hsel rfl rfl rfl (by kernel_rfl) (by kernel_rfl) rfl (fun _ hw => (rn_fld fa_35_5 (S.tm rfl))) ?_));clear S;intro a S
                refine d_loud1 13 (by kernel_rfl) rfl (l_store S (S.tm rfl) (S.tm rfl) (i := 2) (off := 5) rfl Tryz.sizeOf9 (vs := [sV r12.1]) rfl rfl rfl rfl ?_);clear S;intro w71 hk61 S
                refine Ld ?_
                refine d_next (hk61.sub (by intro y hy;simp at hy ⊢;simp [hy])) ?_
                refine d_end (by kernel_rfl) ?_
                clear hsel
                replace S := S.nk [.blk b2 (GStep.enc (GStep.mk x5 x6 r2.1.Id x7 r11.1 r12.1 x10 x11)) 35, .own v1 35 8 x1.length (x1.flatMap GStep.enc), .blk O [U, iV r12.2] 25] [(0, .pointer (some ⟨O, 0, none⟩)), (5, v1), (6, iV (W (x3 + r1.1))), (7, .pointer (some ⟨b2, 0, none⟩)), (8, iV Ar), (9, iV x4)] [false, false, true, true, true] rfl (subR rfl)
                refine Tn ?_
                exact ⟨r11.1, r12.1, r12.2, h, S.nf [true, true, true] rfl (subR rfl)⟩
              ·refine l_buildSlice S Tryz.underlying51 Tryz.sizeOf9 Tryz.zeroValue9 rfl rfl (pv := [(0, sV k_empty), (1, sV x9)]) ⟨rfl, rfl, rfl, (S.tm rfl), trivial⟩ (cs := [sV k_empty, sV x9]) (by kernel_rfl) rfl ?_;clear S;intro a w72 b17 hz17 hk62 S
               refine Ld (d_next (Keep.none hk62) (d_loud1 3 (by kernel_rfl) rfl (l_buildSlice S Tryz.underlying51 Tryz.sizeOf9 Tryz.zeroValue9 rfl rfl (pv := [(0, sV k_A), (1, sV x8)]) ⟨rfl, rfl, rfl, (S.tm rfl), trivial⟩ (cs := [sV k_A, sV x8]) (by kernel_rfl) rfl ?_)));clear S;intro a w73 b18 hz18 hk63 S
               refine Ld (d_next (Keep.none hk63) (d_loud1 4 (by kernel_rfl) rfl ?_))
               refine l_enter1 4 S (b := O) rfl rfl (fun _ => .blk O [U, iV r11.2] 25) (fun _ => run_call (vs := [.pointer (some ⟨O, 0, none⟩), .slice (some ⟨b18, 0, none⟩) 2 2]) ⟨(S.tm rfl), (S.tm rfl), trivial⟩ Tryz.call17) (Stream_Some_ok _ O U Af (Ag.mono (S.le_arg (fp_sub (i := 4) (e := .blk O [U, iV r6.2] 25) rfl))) r6.2 (S.holds _ (List.mem_of_getElem? (i := 4) rfl)) (.slice (some ⟨b18, 0, none⟩) 2 2) [k_A, x8] (lit_slcT enc_str S (i := 0) rfl rfl rfl rfl ((ne_fp (i := 4) (j := 0) (e := .blk O [U, iV r6.2] 25) (e' := .blk b18 [sV k_A, sV x8] 9) S rfl rfl rfl) _ rfl)) _ hr11) rfl (fun _ _ _ h => ⟨h.1, fun _ hc => by cases hc;rfl⟩) ?_;clear S;intro v25 a w74 hv24 hk64 hn24 S
               replace hv24 := hv24.2
               subst hv24
               refine Ld (d_next hk64 (d_pure 10 S hsel rfl rfl (by kernel_rfl) (by kernel_rfl) rfl (fun _ => (rn_fld fa_35_4 (S.tm rfl))) ?_));clear S;intro a S
               refine d_loud1 9 (by kernel_rfl) rfl ?_
               refine l_enter1 4 S (b := O) rfl rfl (fun _ => .blk O [U, iV r12.2] 25) (fun _ => run_call (vs := [.pointer (some ⟨O, 0, none⟩), .slice (some ⟨b17, 0, none⟩) 2 2]) ⟨(S.tm rfl), (S.tm rfl), trivial⟩ Tryz.call17) (Stream_Some_ok _ O U Af (Ag.mono (S.le_arg (fp_sub (i := 4) (e := .blk O [U, iV r11.2] 25) rfl))) r11.2 (S.holds _ (List.mem_of_getElem? (i := 4) rfl)) (.slice (some ⟨b17, 0, none⟩) 2 2) [k_empty, x9] (lit_slcT enc_str S (i := 1) rfl rfl rfl rfl ((ne_fp (i := 4) (j := 1) (e := .blk O [U, iV r11.2] 25) (e' := .blk b17 [sV k_empty, sV x9] 9) S rfl rfl rfl) _ rfl)) _ hr12) rfl (fun _ _ _ h => ⟨h.1, fun _ hc => by cases hc;rfl⟩) ?_;clear S;intro v26 a w75 hv25 hk65 hn25 S
               replace hv25 := hv25.2
               subst hv25
               refine Ld (d_next hk65 (d_loudB 11 ([O] ++ [b2]) rfl (by kernel_rfl) rfl (l_store S (S.tm rfl) (S.tm rfl) (i := 2) (off := 4) rfl Tryz.sizeOf9 (vs := [sV r11.1]) rfl rfl rfl rfl ?_)));clear S;intro w76 hk66 S
               refine Ld (d_nextB (d_quiet 12 S hsel rfl rfl rfl (by kernel_rfl) (by kernel_rfl) rfl (fun _ hw => (rn_fld fa_35_5 (S.tm rfl))) ?_));clear S;intro a S
               refine d_loud1 13 (by kernel_rfl) rfl (l_store S (S.tm rfl) (S.tm rfl) (i := 2) (off := 5) rfl Tryz.sizeOf9 (vs := [sV r12.1]) rfl rfl rfl rfl ?_);clear S;intro w77 hk67 S
               refine Ld ?_
               refine d_next (hk67.sub (by intro y hy;simp at hy ⊢;simp [hy])) ?_
               refine d_end (by kernel_rfl) ?_
               clear hsel
               replace S := S.nk [.blk b2 (GStep.enc (GStep.mk x5 x6 r2.1.Id x7 r11.1 r12.1 x10 x11)) 35, .own v1 35 8 x1.length (x1.flatMap GStep.enc), .blk O [U, iV r12.2] 25] [(0, .pointer (some ⟨O, 0, none⟩)), (5, v1), (6, iV (W (x3 + r1.1))), (7, .pointer (some ⟨b2, 0, none⟩)), (8, iV Ar), (9, iV x4)] [false, false, true, true, true] rfl (subR rfl)
               refine Tn ?_
               exact ⟨r11.1, r12.1, r12.2, h, S.nf [true, true, true] rfl (subR rfl)⟩
             clear S h;rintro a w53 ⟨x55, x56, x57, h, S⟩;rw [hj9] at h;clear hj9 j9
             refine Tn ?_
             exact ⟨x55, x56, x10, x11, x57, h, S.nf [true, true, true] rfl (subR rfl)⟩
            ·replace h := iteF h hb6
             refine Fg (lv S (Rm (S.tm rfl)) rfl ?_);clear S;intro a S
             obtain ⟨r13, hr13, h⟩ := bindE h
             refine l_enter1 2 S (b := O) rfl rfl (fun _ => .blk O [U, iV r13.2] 25) (fun _ => run_call (vs := [.pointer (some ⟨O, 0, none⟩), iV 0, iV 150]) ⟨(S.tm rfl), rfl, rfl, trivial⟩ Tryz.call37) (Stream_Odd_ok _ O U Af (Ag.mono (S.le_arg (fp_sub (i := 2) (e := .blk O [U, iV r6.2] 25) rfl))) r6.2 (S.holds _ (List.mem_of_getElem? (i := 2) rfl)) 0 150 _ hr13) rfl (fun _ _ _ h => ⟨h.1, fun _ hc => by cases hc;rfl⟩) ?_;clear S;intro v27 a w78 hv26 hk68 hn26 S
             replace hv26 := hv26.2
             subst hv26
             refine lv S (Rm (S.tm rfl)) rfl ?_;clear S;intro a S
             obtain ⟨r14, hr14, h⟩ := bindE h
             refine l_enter1 2 S (b := O) rfl rfl (fun _ => .blk O [U, iV r14.2] 25) (fun _ => run_call (vs := [.pointer (some ⟨O, 0, none⟩), iV 1, iV 360000]) ⟨(S.tm rfl), rfl, rfl, trivial⟩ Tryz.call37) (Stream_Odd_ok _ O U Af (Ag.mono (S.le_arg (fp_sub (i := 2) (e := .blk O [U, iV r13.2] 25) rfl))) r13.2 (S.holds _ (List.mem_of_getElem? (i := 2) rfl)) 1 360000 _ hr14) rfl (fun _ _ _ h => ⟨h.1, fun _ hc => by cases hc;rfl⟩) ?_;clear S;intro v28 a w79 hv27 hk69 hn27 S
             replace hv27 := hv27.2
             subst hv27
             refine lv S (rn_fld fa_35_6 (S.tm rfl)) rfl ?_;clear S;intro a S
             refine l_store S (S.tm rfl) (S.tm rfl) (i := 0) (off := 6) rfl Tryz.sizeOf3 (vs := [iV r13.1]) rfl rfl rfl rfl ?_;clear S;intro w80 hk70 S
             refine lv S (rn_fld fa_35_7 (S.tm rfl)) rfl ?_;clear S;intro a S
             refine l_store S (S.tm rfl) (S.tm rfl) (i := 0) (off := 7) rfl Tryz.sizeOf3 (vs := [iV r14.1]) rfl rfl rfl rfl ?_;clear S;intro w81 hk71 S
             refine Ld (Tn ?_)
             exact ⟨x8, x9, r13.1, r14.1, r14.2, h, S.nf [true, true, true] rfl (subR rfl)⟩
           clear S h;rintro a w52 ⟨x50, x51, x52, x53, x54, h, S⟩;rw [hj8] at h;clear hj8 j8
           refine Tn ?_
           exact ⟨r2.1.Id, x7, x50, x51, x52, x53, x54, h, S.nf [true, true, true] rfl (subR rfl)⟩
         clear S h;rintro a w26 ⟨x40, x41, x42, x43, x44, x45, x46, h, S⟩;rw [hj6] at h;clear hj6 j6
         refine Tn ?_
         exact ⟨x5, x6, x40, x41, x42, x43, x44, x45, x46, h, S.nf [true, true, true] rfl (subR rfl)⟩
       clear S h;rintro a w21 ⟨x31, x32, x33, x34, x35, x36, x37, x38, x39, h, S⟩;rw [hj5] at h;clear hj5 j5
       refine blk_n (Tn ?_)
       exact ⟨x31, x32, x33, x34, x35, x36, x37, x38, x39, h, S.nf [true, true, true] rfl (subR rfl)⟩
      clear S h;rintro a w20 ⟨x22, x23, x24, x25, x26, x27, x28, x29, x30, h, S⟩;rw [hj4] at h;clear hj4 j4
      refine Tn ?_
      exact ⟨x22, x23, x24, x25, x26, x27, x28, x29, x30, h, S.nf [true, true, true] rfl (subR rfl)⟩
     ·replace h := iteF h hb3
      refine wp_skip (Tn ?_)
      exact ⟨x5, x6, r2.1.Id, x7, x8, x9, x10, x11, r5.2, h, S.nf [true, true, true] rfl (subR rfl)⟩
    clear S h;rintro a w18 ⟨x13, x14, x15, x16, x17, x18, x19, x20, x21, h, S⟩;rw [hj3] at h;clear hj3 j3
    refine Tn (Fg (lv S (Rm (S.tm rfl)) rfl ?_));clear S;intro a S
    refine lv S (rn_ldA Tryz.isAgg35 Tryz.sizeOf35 (off := 0) (o := 0) (part := (GStep.enc (GStep.mk x13 x14 x15 x16 x17 x18 x19 x20))) rfl rfl (S.tm rfl) (S.cellsAt (i := 0) rfl)) rfl ?_;clear S;intro a S
    refine l_buildSlice S Tryz.underlying28 Tryz.sizeOf35 Tryz.zeroValue35 rfl rfl (pv := [(0, .agg (GStep.enc (GStep.mk x13 x14 x15 x16 x17 x18 x19 x20)).toArray)]) ⟨rfl, (S.tm rfl), trivial⟩ (cs := [iV x13, iV x14, sV x15, sV x16, sV x17, sV x18, iV x19, iV x20]) (by kernel_rfl) rfl ?_;clear S;intro a w82 b19 hz19 hk72 S
    obtain ⟨hc1, h⟩ := chkE h
    refine l_appendT sl_28 GStep.enc_ok S (S.tm rfl) (i := 2) rfl (S.tm rfl) (j := 0) rfl (ys := [(GStep.mk x13 x14 x15 x16 x17 x18 x19 x20)]) rfl rfl rfl rfl (by have := room_lt hc1;omega) rfl ?_;clear S;intro v29 a w83 hk73 S
    refine lv S (Ra (S.tm rfl)) rfl ?_;clear S;intro a S
    refine Ld (blk_n (Tn (Fg (lv S (rn_add (S.tm rfl) rfl) rfl ?_))));clear S;intro a S
    refine lv S (Rm (S.tm rfl)) rfl ?_;clear S;intro a S
    refine Ld (Tn ?_)
    exact ⟨m1, ⟨(x1 ++ [(GStep.mk x13 x14 x15 x16 x17 x18 x19 x20)]), x21, W (x3 + r1.1), W (x4 + 1), v29, h, S.nf [false, false, true, true] rfl ⟨rfl, rfl, rfl, rfl, rfl, trivial⟩⟩, Nat.lt_succ_self _⟩
   ·replace h := iteF h hb1
    refine wp_exit (then_x (then_x (x_same (Tn ?_))))
    exact ⟨x1, x2, v1, h, S.nf [true, true] rfl ⟨rfl, trivial⟩⟩
 clear S h;rintro a w2 ⟨x1, x2, v1, h, S⟩;rw [hj1] at h;clear hj1 j1
 refine Tn (Fs (Fg (lv S (Rm (S.tm rfl)) rfl ?_)));clear S;intro a S
 obtain ⟨r15, hr15, h⟩ := bindE h
 refine l_enterO 0 S rfl (fun _ => .own v1 35 8 r15.length (r15.flatMap GStep.enc)) (fun _ => run_call (vs := [v1, .func (.func 39) #[] #[]]) ⟨(S.tm rfl), rfl, trivial⟩ Tryz.call38) (slices_SortStableFunc_Step_tumbref2_StepOrder_ok _ v1 x1 (S.holds _ (List.mem_of_getElem? (i := 0) rfl)) _ hr15) rfl (fun _ _ _ h => ⟨h.1, fun _ hc => hc⟩) ?_;clear S;intro v30 a w84 hv28 hk74 hn28 S
 replace hv28 := hv28.2
 subst hv28
 refine Ld (Tn (Fs (Fg (lv S (Rm (S.tm rfl)) rfl ?_))));clear S;intro a S
 obtain ⟨r16, hr16, h⟩ := bindE h
 have hz20 := S.keep.size
 refine l_enterO 0 S rfl (fun v31 => .own v31 35 8 r16.length (r16.flatMap GStep.enc)) (fun _ => run_call (vs := [v1, .func (.func 41) #[] #[]]) ⟨(S.tm rfl), rfl, trivial⟩ Tryz.call40) (slices_CompactFunc_Step_Stream_Steps_c1_ok _ v1 r15 (S.holds _ (List.mem_of_getElem? (i := 0) rfl)) _ hr16) rfl (fun _ _ _ h => ⟨h.1, fun _ hc => h.2.symm.trans hc⟩) ?_;clear S;intro v31 a w85 hv29 hk75 hn29 S
 clear hv29
 refine lv S (Ra (S.tm rfl)) rfl ?_;clear S;intro a S
 refine Ld (Tn (wp_ret ?_))
 obtain rfl := Option.some.inj h
 exact f_ret S Tryz.results19 rfl ⟨(S.holds _ (List.mem_of_getElem? (i := 1) rfl)), (own_retX S (i := 0) rfl (fun c hc hh => not_fps S (i := 1) rfl rfl (j := 0) rfl rfl (by simp at hc;subst hc;exact hh)))⟩
theorem tumbref2_in_ok (w : World) (Am : Int) (Ay : Int) (Av : Int) (r : Bool) (h : tumbref2_in Am Ay Av = r) :
    Calls Tryz.prog 67 [iV Am, iV Ay, iV Av].toArray w (Ret w [] fun _ v _ => v = bV r) := by
 refine f_enter [] [] Tryz.func67 rfl Tryz.ntmps67 rfl (by simp) (by simp [fps]) (by simp [fps]) fun a S => ?_
 unfold tumbref2_in at h
 replace S := S.nk [] [(0, iV Am), (1, iV Ay), (2, iV Av)] [] rfl (subR rfl)
 refine Fs (Fg (lv S (Ra rfl) rfl ?_));clear S;intro a S
 refine Ld (Tn (Fs (Fg (lv S (Rm (S.tm rfl)) rfl ?_))));clear S;intro a S
 refine lv S (Rm (S.tm rfl)) rfl ?_;clear S;intro a S
 refine lv S (rn_leq (S.tm rfl) (S.tm rfl)) rfl ?_;clear S;intro a S
 refine lv S (Rm (S.tm rfl)) rfl ?_;clear S;intro a S
 refine f_cutm 4 (fun a w' => Keep [] w w' ∧ Sx w [] nov [] [(14, bV ((decide (Ay ≤ Am)) && (decide (Am ≤ Av))))] 15 a w') ?_ ?_
 ·rcases Bool.eq_false_or_eq_true (decide (Ay ≤ Am)) with hb1 | hb1
  ·refine l_want S rfl rfl rfl hb1 (lv S (Rm (S.tm rfl)) rfl ?_);clear S;intro a S
   refine l_want S rfl rfl rfl hb1 (lv S (Rm (S.tm rfl)) rfl ?_);clear S;intro a S
   refine l_want S rfl rfl rfl hb1 (lv S (rn_leq (S.tm rfl) (S.tm rfl)) rfl ?_);clear S;intro a S
   refine lv S (rn_and_t hb1 (S.tm rfl) (S.tm rfl)) rfl ?_;clear S;intro a S
   refine Ld (Tn ?_)
   exact ⟨Keep.refl _ _, S.nf [] rfl ⟨rfl, trivial⟩⟩
  ·iterate 3 (refine l_skip S rfl rfl rfl (neq_f hb1) rfl ?_ rfl;clear S;intro a S)
   refine lv S (rn_and_f (decide (Am ≤ Av)) hb1 (S.tm rfl) rfl) rfl ?_;clear S;intro a S
   refine Ld (Tn ?_)
   exact ⟨Keep.refl _ _, S.nf [] rfl ⟨rfl, trivial⟩⟩
 clear S;rintro a w1 ⟨hk1, S⟩
 refine lv S (Ra (S.tm rfl)) rfl ?_;clear S;intro a S
 refine Ld (Tn (wp_ret ?_))
 subst h
 exact f_ret S Tryz.results67 rfl rfl
theorem tumbref2_Moment_ok (w : World) (Aq : Int) (r : Bool) (h : tumbref2_Moment Aq = r) :
    Calls Tryz.prog 66 [iV Aq].toArray w (Ret w [] fun _ v _ => v = bV r) := by
 refine f_enter [] [] Tryz.func66 rfl Tryz.ntmps66 rfl (by simp) (by simp [fps]) (by simp [fps]) fun a S => ?_
 unfold tumbref2_Moment at h
 replace S := S.nk [] [(0, iV Aq)] [] rfl ⟨rfl, trivial⟩
 refine Fs (Fg (lv S (Ra rfl) rfl ?_));clear S;intro a S
 refine Ld (Tn (Fs (Fg (lv S (Rm (S.tm rfl)) rfl ?_))));clear S;intro a S
 refine l_enter S (fun _ => run_call (vs := [iV Aq, iV 0, iV 345686399999]) ⟨(S.tm rfl), rfl, rfl, trivial⟩ Tryz.call67) (tumbref2_in_ok _ Aq 0 345686399999 _ rfl) rfl ?_;clear S;intro v1 a w1 hv1 hk1 hn1 S
 subst hv1
 refine lv S (Ra (S.tm rfl)) rfl ?_;clear S;intro a S
 refine Ld (Tn (wp_ret ?_))
 subst h
 exact f_ret S Tryz.results66 rfl rfl
theorem strings_IndexByte_ok (w : World) (s : ByteArray) (c : Int) (r : Int) (h : strings_IndexByte s c = r) : Calls Tryz.prog 102 [.string s, .int .u8 c].toArray w (Ret w [] fun _ v _ => v = .int .i64 r) := by
  subst h
  exact ret_of_same (Any.strings_IndexByte Tryz.lays137 s c w)
theorem tumbref2_only_ok (w : World) (Ab : ByteArray) (Bz : ByteArray) (r : Bool) (h : tumbref2_only Ab Bz = some r) :
    Calls Tryz.prog 90 [sV Ab, sV Bz].toArray w (Ret w [] fun _ v _ => v = bV r) := by
 refine f_enter [] [] Tryz.func90 rfl Tryz.ntmps90 rfl (by simp) (by simp [fps]) (by simp [fps]) fun a S => ?_
 unfold tumbref2_only at h
 replace S := S.nk [] [(0, sV Ab), (1, sV Bz)] [] rfl (subR rfl)
 refine Fs (Fg (lv S (Ra rfl) rfl ?_));clear S;intro a S
 refine Ld (Tn (Fs (Fs (Fg (lv S (Rm (S.tm rfl)) rfl ?_)))));clear S;intro a S
 refine lv S (rn_len_str Tryz.underlying9 (S.tm rfl)) rfl ?_;clear S;intro a S
 refine lv S (Rm rfl) rfl ?_;clear S;intro a S
 refine Ld (Tn ?_)
 replace S := S.nk [] [(0, sV Ab), (1, sV Bz), (7, iV (Ab.size : Int)), (8, iV 0)] [] rfl (subR rfl)
 obtain ⟨j1, hj1, h⟩ := joinE h
 refine f_join (fun a w' => j1 = some r ∧ Sx w [] nov [] [] 18 a w') ?_ ?_
 ·refine wp_block (f_loop (fun (m1 : Nat) a w' => ∃ x1 : Int, tumbref2_only_l1 Ab Bz j1 m1 x1 = some r ∧ Sx w [] nov [] [(0, sV Ab), (1, sV Bz), (7, iV (Ab.size : Int)), (8, iV x1)] 18 a w') id (((Ab.size : Int) - 0).toNat + 2) ⟨0, h, S.nf [] rfl (subR rfl)⟩ ?_)
  clear S h;rintro m1 a w1 ⟨x1, h, S⟩
  cases m1 with
  | zero => rw [tumbref2_only_l1.eq_1] at h;cases h
  | succ m1 =>
   rw [tumbref2_only_l1.eq_2] at h
   refine Fs (Fg (lv S (rn_lss (S.tm rfl) (S.tm rfl)) rfl ?_));clear S;intro a S
   refine Ld (Tn (Fs (f_cond (S.tm rfl) (fun hb1 => ?_) (fun hb1 => ?_))))
   ·replace h := iteT h hb1
    refine wp_skip (Tn (Fs (wp_block (Fs (Fg (lv S (Rm (S.tm rfl)) rfl ?_))))));clear S;intro a S
    refine lv S (Ra (S.tm rfl)) rfl ?_;clear S;intro a S
    refine Ld (Tn (Fs (Fg (lv S (Rm (S.tm rfl)) rfl ?_))));clear S;intro a S
    refine lv S (Rm (S.tm rfl)) rfl ?_;clear S;intro a S
    refine lv S (Rm (S.tm rfl)) rfl ?_;clear S;intro a S
    obtain ⟨hc1, h⟩ := chkE h
    refine lv S (rn_sindexT Tryz.underlying9 (S.tm rfl) (S.tm rfl) hc1) rfl ?_;clear S;intro a S
    refine l_enter S (fun _ => run_call (vs := [sV Bz, .int .u8 (sbyte Ab x1)]) ⟨(S.tm rfl), (S.tm rfl), trivial⟩ Tryz.call102) (strings_IndexByte_ok _ Bz (sbyte Ab x1) _ rfl) rfl ?_;clear S;intro v1 a w3 hv1 hk1 hn1 S
    subst hv1
    refine lv S (rn_lss (S.tm rfl) rfl) rfl ?_;clear S;intro a S
    refine Ld (Tn (f_cond (S.tm rfl) (fun hb2 => ?_) (fun hb2 => ?_)))
    ·replace h := iteT h hb2
     refine Fs (Fg (lv S (Ra rfl) rfl ?_));clear S;intro a S
     refine Ld (Tn (wp_ret (blk_r (then_r (then_r (blk_r ?_))))))
     refine then_r (then_r ?_)
     obtain rfl := Option.some.inj h
     exact f_ret S Tryz.results90 rfl rfl
    ·replace h := iteF h hb2
     refine wp_skip (blk_n (Tn (Fg (lv S (rn_add (S.tm rfl) rfl) rfl ?_))));clear S;intro a S
     refine lv S (Rm (S.tm rfl)) rfl ?_;clear S;intro a S
     refine Ld (Tn ?_)
     exact ⟨m1, ⟨W (x1 + 1), h, S.nf [] rfl ⟨rfl, rfl, rfl, rfl, trivial⟩⟩, Nat.lt_succ_self _⟩
   ·replace h := iteF h hb1
    refine wp_exit (then_x (then_x (x_same (Tn ?_))))
    exact ⟨h, S.nf [] rfl trivial⟩
 clear S h;rintro a w2 ⟨h, S⟩;rw [hj1] at h;clear hj1 j1
 refine Tn (Fs (Fg (lv S (Ra rfl) rfl ?_)));clear S;intro a S
 refine Ld (Tn (wp_ret ?_))
 obtain rfl := Option.some.inj h
 exact f_ret S Tryz.results90 rfl rfl
theorem tumbref2_Key_ok (w : World) (Ab : ByteArray) (r : Bool) (h : tumbref2_Key Ab = some r) :
    Calls Tryz.prog 68 [sV Ab].toArray w (Ret w [] fun _ v _ => v = bV r) := by
 refine f_enter [] [] Tryz.func68 rfl Tryz.ntmps68 rfl (by simp) (by simp [fps]) (by simp [fps]) fun a S => ?_
 unfold tumbref2_Key at h
 replace S := S.nk [] [(0, sV Ab)] [] rfl ⟨rfl, trivial⟩
 refine Fs (Fg (lv S (Ra rfl) rfl ?_));clear S;intro a S
 refine Ld (Tn (Fs (Fg (lv S (Rm (S.tm rfl)) rfl ?_))));clear S;intro a S
 refine lv S (rn_len_str Tryz.underlying9 (S.tm rfl)) rfl ?_;clear S;intro a S
 refine l_enter S (fun _ => run_call (vs := [iV (Ab.size : Int), iV 1, iV 40]) ⟨(S.tm rfl), rfl, rfl, trivial⟩ Tryz.call67) (tumbref2_in_ok _ (Ab.size : Int) 1 40 _ rfl) rfl ?_;clear S;intro v1 a w1 hv1 hk1 hn1 S
 subst hv1
 refine lv S (Rm (S.tm rfl)) rfl ?_;clear S;intro a S
 obtain ⟨j1, hj1, h⟩ := joinE h
 refine f_cutm 4 (fun a w' => ∃ c1, j1 c1 = some r ∧ Keep [] w1 w' ∧ Sx w [] nov [] [(0, sV Ab), (10, bV c1)] 15 a w') ?_ ?_
 ·rcases Bool.eq_false_or_eq_true (tumbref2_in (Ab.size : Int) 1 40) with hb1 | hb1
  ·replace h := iteT h hb1
   refine l_want S rfl rfl rfl hb1 (lv S (Rm (S.tm rfl)) rfl ?_);clear S;intro a S
   refine l_want S rfl rfl rfl hb1 ?_
   obtain ⟨hc1, h⟩ := chkE h
   refine lv S (rn_scutTh Tryz.underlying9 (S.tm rfl) rfl hc1) rfl ?_;clear S;intro a S
   refine l_want S rfl rfl rfl hb1 ?_
   obtain ⟨r1, hr1, h⟩ := bindE h
   refine l_enter S (fun _ => run_call (vs := [sV (scut Ab 0 1), sV k_abcdefghijklmnopqrstuvwxyz]) ⟨(S.tm rfl), rfl, trivial⟩ Tryz.call90) (tumbref2_only_ok _ (scut Ab 0 1) k_abcdefghijklmnopqrstuvwxyz _ hr1) rfl ?_;clear S;intro v2 a w3 hv2 hk2 hn2 S
   subst hv2
   refine lv S (rn_and_t hb1 (S.tm rfl) (S.tm rfl)) rfl ?_;clear S;intro a S
   refine Ld (Tn ?_)
   exact ⟨_, h, hk2, S.nf [] rfl (subR rfl)⟩
  ·replace h := iteF h hb1
   iterate 3 (refine l_skip S rfl rfl rfl (neq_f hb1) rfl ?_ rfl;clear S;intro a S)
   refine lv S (rn_and_f true hb1 (S.tm rfl) rfl) rfl ?_;clear S;intro a S
   refine Ld (Tn ?_)
   exact ⟨_, h, Keep.refl _ _, S.nf [] rfl (subR rfl)⟩
 clear S h;rintro a w2 ⟨c1, h, hk3, S⟩;rw [hj1] at h;clear hj1 j1
 refine lv S (Rm (S.tm rfl)) rfl ?_;clear S;intro a S
 obtain ⟨j2, hj2, h⟩ := joinE h
 refine f_cutm 3 (fun a w' => ∃ c2, j2 c2 = some r ∧ Keep [] w2 w' ∧ Sx w [] nov [] [(14, bV c2)] 15 a w') ?_ ?_
 ·rcases Bool.eq_false_or_eq_true c1 with hb2 | hb2
  ·replace h := iteT h hb2
   refine l_want S rfl rfl rfl hb2 (lv S (Rm (S.tm rfl)) rfl ?_);clear S;intro a S
   refine l_want S rfl rfl rfl hb2 ?_
   obtain ⟨r2, hr2, h⟩ := bindE h
   refine l_enter S (fun _ => run_call (vs := [sV Ab, sV k_abcdefghijkl_h0e2e2c]) ⟨(S.tm rfl), rfl, trivial⟩ Tryz.call90) (tumbref2_only_ok _ Ab k_abcdefghijkl_h0e2e2c _ hr2) rfl ?_;clear S;intro v3 a w5 hv3 hk4 hn3 S
   subst hv3
   refine lv S (rn_and_t hb2 (S.tm rfl) (S.tm rfl)) rfl ?_;clear S;intro a S
   refine Ld (Tn ?_)
   exact ⟨_, h, hk4, S.nf [] rfl ⟨rfl, trivial⟩⟩
  ·replace h := iteF h hb2
   refine l_skip S rfl rfl rfl (neq_f hb2) rfl ?_ rfl;clear S;intro a S
   refine l_skip S rfl rfl rfl (neq_f hb2) rfl ?_ rfl;clear S;intro a S
   refine lv S (rn_and_f true hb2 (S.tm rfl) rfl) rfl ?_;clear S;intro a S
   refine Ld (Tn ?_)
   exact ⟨_, h, Keep.refl _ _, S.nf [] rfl ⟨rfl, trivial⟩⟩
 clear S h;rintro a w4 ⟨c2, h, hk5, S⟩;rw [hj2] at h;clear hj2 j2
 refine lv S (Ra (S.tm rfl)) rfl ?_;clear S;intro a S
 refine Ld (Tn (wp_ret ?_))
 obtain rfl := Option.some.inj h
 exact f_ret S Tryz.results68 rfl rfl
theorem tumbref2_StepFault_ok (w : World) (Ab : GStep) (r : Int) (h : tumbref2_StepFault Ab = some r) :
    Calls Tryz.prog 42 [.agg (GStep.enc Ab).toArray].toArray w (Ret w [] fun _ v _ => v = iV r) := by
 refine f_enter [] [] Tryz.func42 rfl Tryz.ntmps42 rfl (by simp) (by simp [fps]) (by simp [fps]) fun a S => ?_
 unfold tumbref2_StepFault at h
 replace S := S.nk [] [(0, .agg (GStep.enc Ab).toArray)] [] rfl ⟨rfl, trivial⟩
 refine Fs (Fg (l_box S (S.tm rfl) (cs := (GStep.enc Ab)) rfl rfl ?_));clear S;intro a w1 b1 hz1 hk1 S
 refine lv S (Ra rfl) rfl ?_;clear S;intro a S
 refine Ld (Tn (Fs (wp_block (Fs (Fg (lv S (rn_fld fa_35_0 (S.tm rfl)) rfl ?_))))));clear S;intro a S
 refine lv S (rn_load Tryz.isAgg3 (S.tm rfl) (S.cell (i := 0) rfl rfl)) rfl ?_;clear S;intro a S
 refine l_enter S (fun _ => run_call (vs := [iV Ab.At]) ⟨(S.tm rfl), trivial⟩ Tryz.call66) (tumbref2_Moment_ok _ Ab.At _ rfl) rfl ?_;clear S;intro v1 a w2 hv1 hk2 hn1 S
 subst hv1
 refine lv S (rn_not (S.tm rfl)) rfl ?_;clear S;intro a S
 refine lv S (Ra (S.tm rfl)) rfl ?_;clear S;intro a S
 refine Ld (Tn (f_cond (S.tm rfl) (fun hb1 => ?_) (fun hb1 => ?_)))
 ·replace h := iteT h hb1
  refine Fs (Fg (lv S (Ra rfl) rfl ?_));clear S;intro a S
  refine Ld (Tn (wp_ret (blk_r (then_r ?_))))
  obtain rfl := Option.some.inj h
  exact f_ret S Tryz.results42 rfl rfl
 ·replace h := iteF h hb1
  refine Fs (Fg (lv S (rn_fld fa_35_1 (S.tm rfl)) rfl ?_));clear S;intro a S
  refine lv S (rn_load Tryz.isAgg3 (S.tm rfl) (S.cell (i := 0) rfl rfl)) rfl ?_;clear S;intro a S
  refine l_enter S (fun _ => run_call (vs := [iV Ab.Kind, iV 1, iV 3]) ⟨(S.tm rfl), rfl, rfl, trivial⟩ Tryz.call67) (tumbref2_in_ok _ Ab.Kind 1 3 _ rfl) rfl ?_;clear S;intro v2 a w3 hv2 hk3 hn2 S
  subst hv2
  refine lv S (rn_not (S.tm rfl)) rfl ?_;clear S;intro a S
  refine lv S (Ra (S.tm rfl)) rfl ?_;clear S;intro a S
  refine Ld (Tn (f_cond (S.tm rfl) (fun hb2 => ?_) (fun hb2 => ?_)))
  ·replace h := iteT h hb2
   refine Fs (Fg (lv S (Ra rfl) rfl ?_));clear S;intro a S
   refine Ld (Tn (wp_ret (blk_r (then_r ?_))))
   obtain rfl := Option.some.inj h
   exact f_ret S Tryz.results42 rfl rfl
  ·replace h := iteF h hb2
   refine Fs (Fg (lv S (rn_fld fa_35_2 (S.tm rfl)) rfl ?_));clear S;intro a S
   refine lv S (rn_load Tryz.isAgg9 (S.tm rfl) (S.cell (i := 0) rfl rfl)) rfl ?_;clear S;intro a S
   obtain ⟨r1, hr1, h⟩ := bindE h
   refine l_enter S (fun _ => run_call (vs := [sV Ab.Id]) ⟨(S.tm rfl), trivial⟩ Tryz.call68) (tumbref2_Key_ok _ Ab.Id _ hr1) rfl ?_;clear S;intro v3 a w4 hv3 hk4 hn3 S
   subst hv3
   refine lv S (rn_not (S.tm rfl)) rfl ?_;clear S;intro a S
   refine lv S (Ra (S.tm rfl)) rfl ?_;clear S;intro a S
   refine Ld ?_
   replace S := S.nk [.blk b1 (GStep.enc Ab) 35] [(1, .pointer (some ⟨b1, 0, none⟩)), (13, bV (!r1))] [true] rfl (subR rfl)
   refine Tn (f_cond (S.tm rfl) (fun hb3 => ?_) (fun hb3 => ?_))
   ·replace h := iteT h hb3
    refine Fs (Fg (lv S (Ra rfl) rfl ?_));clear S;intro a S
    refine Ld (Tn (wp_ret (blk_r (then_r ?_))))
    obtain rfl := Option.some.inj h
    exact f_ret S Tryz.results42 rfl rfl
   ·replace h := iteF h hb3
    refine wp_skip (blk_n (Tn (Fs (Fs (Fg (lv S (rn_fld fa_35_1 (S.tm rfl)) rfl ?_))))));clear S;intro a S
    refine lv S (rn_load Tryz.isAgg3 (S.tm rfl) (S.cell (i := 0) rfl rfl)) rfl ?_;clear S;intro a S
    refine lv S (rn_neq (S.tm rfl) rfl) rfl ?_;clear S;intro a S
    refine Ld (Tn (f_cond (S.tm rfl) (fun hb4 => ?_) (fun hb4 => ?_)))
    ·replace h := iteT h hb4
     refine Fs (Fs (Fg (lv S (rn_ldA Tryz.isAgg35 Tryz.sizeOf35 (off := 0) (o := 0) (part := (GStep.enc Ab)) rfl rfl (S.tm rfl) (S.cellsAt (i := 0) rfl)) rfl ?_)));clear S;intro a S
     refine lv S (rn_fld fa_35_0 (S.tm rfl)) rfl ?_;clear S;intro a S
     refine lv S (rn_load Tryz.isAgg3 (S.tm rfl) (S.cell (i := 0) rfl rfl)) rfl ?_;clear S;intro a S
     refine lv S (rn_fld fa_35_1 (S.tm rfl)) rfl ?_;clear S;intro a S
     refine lv S (rn_load Tryz.isAgg3 (S.tm rfl) (S.cell (i := 0) rfl rfl)) rfl ?_;clear S;intro a S
     refine lv S (rn_fld fa_35_2 (S.tm rfl)) rfl ?_;clear S;intro a S
     refine lv S (rn_load Tryz.isAgg9 (S.tm rfl) (S.cell (i := 0) rfl rfl)) rfl ?_;clear S;intro a S
     refine lv S (rn_bld bt_35 (pv := [(0, iV Ab.At), (1, iV Ab.Kind), (2, sV Ab.Id)]) ⟨rfl, (S.tm rfl), rfl, (S.tm rfl), rfl, (S.tm rfl), trivial⟩ (cs := [iV Ab.At, iV Ab.Kind, sV Ab.Id, sV k_empty, sV k_empty, sV k_empty, iV 0, iV 0]) (by kernel_rfl)) rfl ?_;clear S;intro a S
     refine lv S (rn_neq_35 (m := Ab) (n := (GStep.mk Ab.At Ab.Kind Ab.Id k_empty k_empty k_empty 0 0)) (S.tm rfl) (S.tm rfl)) rfl ?_;clear S;intro a S
     refine Ld (Tn (f_cond (S.tm rfl) (fun hb5 => ?_) (fun hb5 => ?_)))
     ·replace h := iteT h hb5
      refine Fs (Fg (lv S (Ra rfl) rfl ?_));clear S;intro a S
      refine Ld ?_
      replace S := S.nk [] [(2, iV 3)] [false] rfl ⟨rfl, trivial⟩
      refine Tn (wp_ret (then_r (then_r ?_)))
      obtain rfl := Option.some.inj h
      exact f_ret S Tryz.results42 rfl rfl
     ·replace h := iteF h hb5
      refine wp_skip (Tn (Fs (Fg (lv S (Ra rfl) rfl ?_))));clear S;intro a S
      refine Ld ?_
      replace S := S.nk [] [(2, iV 0)] [false] rfl ⟨rfl, trivial⟩
      refine Tn (wp_ret (then_r ?_))
      obtain rfl := Option.some.inj h
      exact f_ret S Tryz.results42 rfl rfl
    ·replace h := iteF h hb4
     refine wp_skip (Tn (Fs (wp_block (Fs (Fg (lv S (rn_fld fa_35_3 (S.tm rfl)) rfl ?_))))));clear S;intro a S
     refine lv S (rn_load Tryz.isAgg9 (S.tm rfl) (S.cell (i := 0) rfl rfl)) rfl ?_;clear S;intro a S
     obtain ⟨r2, hr2, h⟩ := bindE h
     refine l_enter S (fun _ => run_call (vs := [sV Ab.Who]) ⟨(S.tm rfl), trivial⟩ Tryz.call68) (tumbref2_Key_ok _ Ab.Who _ hr2) rfl ?_;clear S;intro v4 a w5 hv4 hk5 hn4 S
     subst hv4
     refine lv S (rn_not (S.tm rfl)) rfl ?_;clear S;intro a S
     refine lv S (Rm (S.tm rfl)) rfl ?_;clear S;intro a S
     obtain ⟨j1, hj1, h⟩ := joinE h
     refine f_cutm 5 (fun a w' => ∃ c1, j1 c1 = some r ∧ Keep [] w5 w' ∧ Sx w [] nov [.blk b1 (GStep.enc Ab) 35] [(1, .pointer (some ⟨b1, 0, none⟩)), (40, bV c1)] 63 a w') ?_ ?_
     ·rcases Bool.eq_false_or_eq_true (!r2) with hb6 | hb6
      ·replace h := iteT h hb6
       iterate 4 (refine l_skip S rfl rfl rfl (neq_t hb6) rfl ?_ rfl;clear S;intro a S)
       refine lv S (rn_or_t true hb6 (S.tm rfl) rfl) rfl ?_;clear S;intro a S
       refine Ld (Tn ?_)
       exact ⟨_, h, Keep.refl _ _, S.nf [true] rfl (subR rfl)⟩
      ·replace h := iteF h hb6
       refine l_want S rfl rfl rfl hb6 (lv S (rn_fld fa_35_5 (S.tm rfl)) rfl ?_);clear S;intro a S
       refine l_want S rfl rfl rfl hb6 (lv S (rn_load Tryz.isAgg9 (S.tm rfl) (S.cell (i := 0) rfl rfl)) rfl ?_);clear S;intro a S
       refine l_want S rfl rfl rfl hb6 ?_
       obtain ⟨r3, hr3, h⟩ := bindE h
       refine l_enter S (fun _ => run_call (vs := [sV Ab.Race]) ⟨(S.tm rfl), trivial⟩ Tryz.call68) (tumbref2_Key_ok _ Ab.Race _ hr3) rfl ?_;clear S;intro v5 a w7 hv5 hk6 hn5 S
       subst hv5
       refine l_want S rfl rfl rfl hb6 (lv S (rn_not (S.tm rfl)) rfl ?_);clear S;intro a S
       refine lv S (rn_or_f hb6 (S.tm rfl) (S.tm rfl)) rfl ?_;clear S;intro a S
       refine Ld (Tn ?_)
       exact ⟨_, h, hk6, S.nf [true] rfl (subR rfl)⟩
     clear S h;rintro a w6 ⟨c1, h, hk7, S⟩;rw [hj1] at h;clear hj1 j1
     refine lv S (Rm (S.tm rfl)) rfl ?_;clear S;intro a S
     obtain ⟨j2, hj2, h⟩ := joinE h
     refine f_cutm 10 (fun a w' => ∃ c2, j2 c2 = some r ∧ Keep [] w6 w' ∧ Sx w [] nov [.blk b1 (GStep.enc Ab) 35] [(1, .pointer (some ⟨b1, 0, none⟩)), (51, bV c2)] 63 a w') ?_ ?_
     ·rcases Bool.eq_false_or_eq_true c1 with hb7 | hb7
      ·replace h := iteT h hb7
       iterate 4 (refine l_skip S rfl rfl rfl (neq_t hb7) rfl ?_ rfl;clear S;intro a S)
       iterate 4 (refine l_skipU S rfl rfl rfl rfl ?_;clear S;intro a S)
       refine l_skip S rfl rfl rfl (neq_t hb7) rfl ?_ rfl;clear S;intro a S
       refine lv S (rn_or_t true hb7 (S.tm rfl) rfl) rfl ?_;clear S;intro a S
       refine Ld (Tn ?_)
       exact ⟨_, h, Keep.refl _ _, S.nf [true] rfl (subR rfl)⟩
      ·replace h := iteF h hb7
       refine l_want S rfl rfl rfl hb7 (lv S (rn_fld fa_35_4 (S.tm rfl)) rfl ?_);clear S;intro a S
       refine l_want S rfl rfl rfl hb7 (lv S (rn_load Tryz.isAgg9 (S.tm rfl) (S.cell (i := 0) rfl rfl)) rfl ?_);clear S;intro a S
       refine l_want S rfl rfl rfl hb7 (lv S (rn_sneq (S.tm rfl) rfl) rfl ?_);clear S;intro a S
       refine l_want S rfl rfl rfl hb7 (lv S (Rm (S.tm rfl)) rfl ?_);clear S;intro a S
       obtain ⟨j3, hj3, h⟩ := joinE h
       refine f_cutm 5 (fun a w' => ∃ c3, j3 c3 = some r ∧ Keep [] w6 w' ∧ Sx w [] nov [.blk b1 (GStep.enc Ab) 35] [(1, .pointer (some ⟨b1, 0, none⟩)), (41, bV c1), (50, bV c3)] 63 a w') ?_ ?_
       ·rcases Bool.eq_false_or_eq_true (!decide (Ab.Club = k_empty)) with hb8 | hb8
        ·replace h := iteT h hb8
         refine l_want S rfl rfl rfl hb8 (lv S (rn_fld fa_35_4 (S.tm rfl)) rfl ?_);clear S;intro a S
         refine l_want S rfl rfl rfl hb8 (lv S (rn_load Tryz.isAgg9 (S.tm rfl) (S.cell (i := 0) rfl rfl)) rfl ?_);clear S;intro a S
         refine l_want S rfl rfl rfl hb8 ?_
         obtain ⟨r4, hr4, h⟩ := bindE h
         refine l_enter S (fun _ => run_call (vs := [sV Ab.Club]) ⟨(S.tm rfl), trivial⟩ Tryz.call68) (tumbref2_Key_ok _ Ab.Club _ hr4) rfl ?_;clear S;intro v6 a w10 hv6 hk8 hn6 S
         subst hv6
         refine l_want S rfl rfl rfl hb8 (lv S (rn_not (S.tm rfl)) rfl ?_);clear S;intro a S
         refine l_want S rfl rfl rfl hb7 (lv S (rn_and_t hb8 (S.tm rfl) (S.tm rfl)) rfl ?_);clear S;intro a S
         refine Ld (Tn ?_)
         exact ⟨_, h, hk8, S.nf [true] rfl (subR rfl)⟩
        ·replace h := iteF h hb8
         iterate 4 (refine l_skip S rfl rfl rfl (neq_f hb8) rfl ?_ rfl;clear S;intro a S)
         refine l_want S rfl rfl rfl hb7 (lv S (rn_and_f true hb8 (S.tm rfl) rfl) rfl ?_);clear S;intro a S
         refine Ld (Tn ?_)
         exact ⟨_, h, Keep.refl _ _, S.nf [true] rfl (subR rfl)⟩
       clear S h;rintro a w9 ⟨c3, h, hk9, S⟩;rw [hj3] at h;clear hj3 j3
       refine lv S (rn_or_f hb7 (S.tm rfl) (S.tm rfl)) rfl ?_;clear S;intro a S
       refine Ld (Tn ?_)
       exact ⟨_, h, hk9, S.nf [true] rfl (subR rfl)⟩
     clear S h;rintro a w8 ⟨c2, h, hk10, S⟩;rw [hj2] at h;clear hj2 j2
     refine lv S (Ra (S.tm rfl)) rfl ?_;clear S;intro a S
     refine Ld (Tn (f_cond (S.tm rfl) (fun hb9 => ?_) (fun hb9 => ?_)))
     ·replace h := iteT h hb9
      refine Fs (Fg (lv S (Ra rfl) rfl ?_));clear S;intro a S
      refine Ld (Tn (wp_ret (blk_r (then_r ?_))))
      obtain rfl := Option.some.inj h
      exact f_ret S Tryz.results42 rfl rfl
     ·replace h := iteF h hb9
      refine Fs (Fg (lv S (rn_fld fa_35_6 (S.tm rfl)) rfl ?_));clear S;intro a S
      refine lv S (rn_load Tryz.isAgg3 (S.tm rfl) (S.cell (i := 0) rfl rfl)) rfl ?_;clear S;intro a S
      refine l_enter S (fun _ => run_call (vs := [iV Ab.Age, iV 0, iV 150]) ⟨(S.tm rfl), rfl, rfl, trivial⟩ Tryz.call67) (tumbref2_in_ok _ Ab.Age 0 150 _ rfl) rfl ?_;clear S;intro v7 a w11 hv7 hk11 hn7 S
      subst hv7
      refine lv S (rn_not (S.tm rfl)) rfl ?_;clear S;intro a S
      refine lv S (Rm (S.tm rfl)) rfl ?_;clear S;intro a S
      refine f_cutm 5 (fun a w' => Keep [] w11 w' ∧ Sx w [] nov [.blk b1 (GStep.enc Ab) 35] [(62, bV ((!(tumbref2_in Ab.Age 0 150)) || (!(tumbref2_in Ab.Time 1 360000))))] 63 a w') ?_ ?_
      ·rcases Bool.eq_false_or_eq_true (!(tumbref2_in Ab.Age 0 150)) with hb10 | hb10
       ·iterate 4 (refine l_skip S rfl rfl rfl (neq_t hb10) rfl ?_ rfl;clear S;intro a S)
        refine lv S (rn_or_t (!(tumbref2_in Ab.Time 1 360000)) hb10 (S.tm rfl) rfl) rfl ?_;clear S;intro a S
        refine Ld (Tn ?_)
        exact ⟨Keep.refl _ _, S.nf [true] rfl ⟨rfl, trivial⟩⟩
       ·refine l_want S rfl rfl rfl hb10 (lv S (rn_fld fa_35_7 (S.tm rfl)) rfl ?_);clear S;intro a S
        refine l_want S rfl rfl rfl hb10 (lv S (rn_load Tryz.isAgg3 (S.tm rfl) (S.cell (i := 0) rfl rfl)) rfl ?_);clear S;intro a S
        refine l_want S rfl rfl rfl hb10 (l_enter S (fun _ => run_call (vs := [iV Ab.Time, iV 1, iV 360000]) ⟨(S.tm rfl), rfl, rfl, trivial⟩ Tryz.call67) (tumbref2_in_ok _ Ab.Time 1 360000 _ rfl) rfl ?_);clear S;intro v8 a w13 hv8 hk12 hn8 S
        subst hv8
        refine l_want S rfl rfl rfl hb10 (lv S (rn_not (S.tm rfl)) rfl ?_);clear S;intro a S
        refine lv S (rn_or_f hb10 (S.tm rfl) (S.tm rfl)) rfl ?_;clear S;intro a S
        refine Ld (Tn ?_)
        exact ⟨hk12, S.nf [true] rfl ⟨rfl, trivial⟩⟩
      clear S;rintro a w12 ⟨hk13, S⟩
      refine lv S (Ra (S.tm rfl)) rfl ?_;clear S;intro a S
      refine Ld (Tn (f_cond (S.tm rfl) (fun hb11 => ?_) (fun hb11 => ?_)))
      ·replace h := iteT h hb11
       refine Fs (Fg (lv S (Ra rfl) rfl ?_));clear S;intro a S
       refine Ld (Tn (wp_ret (blk_r (then_r ?_))))
       obtain rfl := Option.some.inj h
       exact f_ret S Tryz.results42 rfl rfl
      ·replace h := iteF h hb11
       refine wp_skip (blk_n (Tn (Fs (Fg (lv S (Ra rfl) rfl ?_)))));clear S;intro a S
       refine Ld (Tn (wp_ret ?_))
       obtain rfl := Option.some.inj h
       exact f_ret S Tryz.results42 rfl rfl
set_option maxRecDepth 20000 in
theorem tumbref2_StepsFault_ok (w : World) (V : Value) (Z : List GStep) (Ae : Slc (view w []) 8 V (Z.map GStep.enc)) (r : Int) (h : tumbref2_StepsFault Z = some r) :
    Calls Tryz.prog 20 [V].toArray w (Ret w [] fun _ v _ => v = iV r) := by
 refine f_enter [] [] Tryz.func20 rfl Tryz.ntmps20 rfl (by simp) (by simp [fps]) (by simp [fps]) fun a S => ?_
 unfold tumbref2_StepsFault at h
 replace S := S.nk [] [(0, V)] [] rfl ⟨rfl, trivial⟩
 refine Fs (Fg (lv S (Ra rfl) rfl ?_));clear S;intro a S
 refine Ld (Tn (Fs (Fs (Fg (lv S (Rm (S.tm rfl)) rfl ?_)))));clear S;intro a S
 refine lv S (rn_lenT sl_28 (S.tm rfl) (slc_len Ae)) rfl ?_;clear S;intro a S
 refine lv S (rn_gtr (S.tm rfl) rfl) rfl ?_;clear S;intro a S
 refine Ld (Tn (f_cond (S.tm rfl) (fun hb1 => ?_) (fun hb1 => ?_)))
 ·replace h := iteT h hb1
  refine Fs (Fg (lv S (Ra rfl) rfl ?_));clear S;intro a S
  refine Ld (Tn (wp_ret (then_r ?_)))
  obtain rfl := Option.some.inj h
  exact f_ret S Tryz.results20 rfl rfl
 ·replace h := iteF h hb1
  refine wp_skip (Tn (Fs (Fs (Fg (lv S (Rm (S.tm rfl)) rfl ?_)))));clear S;intro a S
  refine lv S (rn_lenT sl_28 (S.tm rfl) (slc_len Ae)) rfl ?_;clear S;intro a S
  refine lv S (Rm rfl) rfl ?_;clear S;intro a S
  refine Ld (Tn ?_)
  replace S := S.nk [] [(0, V), (9, V), (10, iV (Z.length : Int)), (11, iV 0)] [] rfl (subR rfl)
  obtain ⟨j1, hj1, h⟩ := joinE h
  refine f_join (fun a w' => j1 = some r ∧ Sx w [] nov [] [] 34 a w') ?_ ?_
  ·refine wp_block (f_loop (fun (ys1 : List GStep) a w' => ∃ i1 : Nat, (∃ dn, Z = dn ++ ys1 ∧ dn.length = i1) ∧ tumbref2_StepsFault_l1 Z j1 ys1 i1 = some r ∧ Sx w [] nov [] [(0, V), (9, V), (10, iV (Z.length : Int)), (11, iV (i1 : Int))] 34 a w') List.length Z ⟨0, ⟨[], rfl, rfl⟩, h, S.nf [] rfl (subR rfl)⟩ ?_)
   clear S h;rintro ys1 a w1 ⟨i1, ⟨dn, hd1, hi1⟩, h, S⟩
   cases ys1 with
   | nil =>
    rw [tumbref2_StepsFault_l1.eq_1] at h
    refine Fs (Fg (lv S (rn_lss (S.tm rfl) (S.tm rfl)) rfl ?_));clear S;intro a S
    refine Ld ?_
    replace S := S.nk [] [(0, V), (9, V), (10, iV (Z.length : Int)), (11, iV (i1 : Int)), (12, bV (decide ((i1 : Int) < (Z.length : Int))))] [] rfl (subR rfl)
    refine Tn (Fs (wp_cond_false ((S.tm rfl).trans (congrArg Value.bool (rng_nil hd1 hi1))) (wp_exit (then_x (then_x (x_same ?_))))))
    refine Tn ?_
    exact ⟨h, S.nf [] rfl trivial⟩
   | cons y1 ys1 =>
    rw [tumbref2_StepsFault_l1.eq_2] at h
    refine Fs (Fg (lv S (rn_lss (S.tm rfl) (S.tm rfl)) rfl ?_));clear S;intro a S
    refine Ld ?_
    replace S := S.nk [] [(0, V), (9, V), (10, iV (Z.length : Int)), (11, iV (i1 : Int)), (12, bV (decide ((i1 : Int) < (Z.length : Int))))] [] rfl (subR rfl)
    refine Tn (Fs (wp_cond_true ((S.tm rfl).trans (congrArg Value.bool (rng_cons hd1 hi1))) (wp_skip (Tn (Fs (wp_block ?_))))))
    refine Fs (Fg (lv S (Rm (S.tm rfl)) rfl ?_));clear S;intro a S
    obtain ⟨b1, o1, hm1, hr1⟩ := rn_indexT (a := a) (x := .tmp 9) (y := .tmp 11) (ty := 0) sl_28 Ae (get_mid hd1 hi1) rfl (S.tm rfl) (S.tm rfl)
    refine lv S (hr1 _) rfl ?_;clear S;intro a S
    clear hr1
    refine lv S (rn_ldA Tryz.isAgg35 Tryz.sizeOf35 (off := o1) (o := 0) (part := (GStep.enc y1)) rfl rfl (S.tm rfl) (hm1.at S.emb0)) rfl ?_;clear S;intro a S
    refine l_alloc S Tryz.zeroValue35 (cs := [iV 0, iV 0, sV k_empty, sV k_empty, sV k_empty, sV k_empty, iV 0, iV 0]) rfl rfl ?_;clear S;intro a w3 b2 hz1 hk1 S
    refine lv S (Ra (S.tm rfl)) rfl ?_;clear S;intro a S
    refine l_store S (S.tm rfl) (S.tm rfl) (i := 0) (off := 0) rfl Tryz.sizeOf35 (vs := (GStep.enc y1)) rfl rfl rfl rfl ?_;clear S;intro w4 hk2 S
    refine Ld (Tn (Fs (Fs (Fg (lv S (rn_ldA Tryz.isAgg35 Tryz.sizeOf35 (off := 0) (o := 0) (part := (GStep.enc y1)) rfl rfl (S.tm rfl) (S.cellsAt (i := 0) rfl)) rfl ?_)))));clear S;intro a S
    obtain ⟨r1, hr2, h⟩ := bindE h
    refine l_enter S (fun _ => run_call (vs := [.agg (GStep.enc y1).toArray]) ⟨(S.tm rfl), trivial⟩ Tryz.call42) (tumbref2_StepFault_ok _ y1 _ hr2) rfl ?_;clear S;intro v1 a w5 hv1 hk3 hn1 S
    subst hv1
    refine lv S (Ra (S.tm rfl)) rfl ?_;clear S;intro a S
    refine Ld (Tn (Fs (Fg (lv S (Rm (S.tm rfl)) rfl ?_))));clear S;intro a S
    refine lv S (rn_neq (S.tm rfl) rfl) rfl ?_;clear S;intro a S
    refine Ld ?_
    replace S := S.nk [.blk b2 (GStep.enc y1) 35] [(0, V), (3, iV (i1 : Int)), (4, .pointer (some ⟨b2, 0, none⟩)), (5, iV r1), (9, V), (10, iV (Z.length : Int)), (11, iV (i1 : Int)), (19, bV (!decide (r1 = 0)))] [true] rfl (subR rfl)
    refine Tn (f_cond (S.tm rfl) (fun hb2 => ?_) (fun hb2 => ?_))
    ·replace h := iteT h hb2
     refine Fs (Fg (lv S (Rm (S.tm rfl)) rfl ?_));clear S;intro a S
     refine lv S (Ra (S.tm rfl)) rfl ?_;clear S;intro a S
     refine Ld (Tn (wp_ret (then_r (blk_r (then_r (then_r ?_))))))
     refine blk_r (then_r (then_r ?_))
     obtain rfl := Option.some.inj h
     exact f_ret S Tryz.results20 rfl rfl
    ·replace h := iteF h hb2
     refine wp_skip (Tn (Fs ?_))
     obtain ⟨j2, hj2, h⟩ := joinE h
     refine f_join (fun a w' => ∃ x1 : Bool, j2 x1 = some r ∧ Sx w [] nov [] [(0, V), (9, V), (10, iV (Z.length : Int)), (11, iV (i1 : Int)), (32, bV x1)] 34 a w') ?_ ?_
     ·rcases Bool.eq_false_or_eq_true (decide (0 < (i1 : Int))) with hb3 | hb3
      ·replace h := iteT h hb3
       obtain ⟨hc1, h⟩ := chkE h
       refine d_region [] ([]) Tryz.mixed S rfl (by kernel_rfl) ?_;clear S;intro w8 hk5 hsel S
       refine d_quiet 0 S hsel rfl rfl rfl (by kernel_rfl) (by kernel_rfl) rfl (fun _ hw => (Rm (S.tm rfl))) ?_;clear S;intro a S
       refine d_quiet 1 S hsel rfl rfl rfl (by kernel_rfl) (by kernel_rfl) rfl (fun _ hw => (rn_gtr (S.tm rfl) rfl)) ?_;clear S;intro a S
       refine d_quiet 2 S hsel rfl rfl rfl (by kernel_rfl) (by kernel_rfl) rfl (fun _ hw => (Rm (S.tm rfl))) ?_;clear S;intro a S
       refine d_quiet_g 3 S hsel rfl rfl rfl rfl hb3 rfl rfl (by kernel_rfl) (by kernel_rfl) rfl (fun _ hw => (Rm (S.tm rfl))) ?_;clear S;intro a S
       refine d_quiet_g 4 S hsel rfl rfl rfl rfl hb3 rfl rfl (by kernel_rfl) (by kernel_rfl) rfl (fun _ hw => (Rm (S.tm rfl))) ?_;clear S;intro a S
       refine d_quiet_g 5 S hsel rfl rfl rfl rfl hb3 rfl rfl (by kernel_rfl) (by kernel_rfl) rfl (fun _ hw => (rn_sub (S.tm rfl) rfl)) ?_;clear S;intro a S
       obtain ⟨b4, o3, hm3, hr4⟩ := rn_indexT (a := a) (x := .tmp 24) (y := .tmp 26) (ty := 0) sl_28 (Ae.mono (S.le_arg nil_sub)) (inB_get hc1).1 (inB_get hc1).2 (S.tm rfl) (S.tm rfl)
       refine d_quiet_g 6 S hsel rfl rfl rfl rfl hb3 rfl rfl (by kernel_rfl) (by kernel_rfl) rfl (fun _ hw => hr4 _) ?_;clear S;intro a S
       clear hr4
       refine d_quiet_g 7 S hsel rfl rfl rfl rfl hb3 rfl rfl (by kernel_rfl) (by kernel_rfl) rfl (fun _ hw => (rn_ldA Tryz.isAgg35 Tryz.sizeOf35 (off := o3) (o := 0) (part := (GStep.enc (nth Z (W ((i1 : Int) - 1))))) rfl rfl (S.tm rfl) (hm3.kept hw))) ?_;clear S;intro a S
       refine d_quiet_g 8 S hsel rfl rfl rfl rfl hb3 rfl rfl (by kernel_rfl) (by kernel_rfl) rfl (fun _ hw => (rn_ldA Tryz.isAgg35 Tryz.sizeOf35 (off := 0) (o := 0) (part := (GStep.enc y1)) rfl rfl (S.tm rfl) ((S.blk_mem (i := 0) (cells := (GStep.enc y1)) (b := b2) (T := 35) rfl (ne_nil (e' := .blk b2 (GStep.enc y1) 35))).kept hw))) ?_;clear S;intro a S
       refine d_loud1 9 (by kernel_rfl) rfl (l_want S rfl rfl rfl hb3 (l_enter S (fun _ => run_call (vs := [.agg (GStep.enc (nth Z (W ((i1 : Int) - 1)))).toArray, .agg (GStep.enc y1).toArray]) ⟨(S.tm rfl), (S.tm rfl), trivial⟩ Tryz.call39) (tumbref2_StepOrder_ok _ (nth Z (W ((i1 : Int) - 1))) y1 _ rfl) rfl ?_));clear S;intro v3 a w9 hv3 hk6 hn3 S
       subst hv3
       refine Ld (d_next hk6 (d_rest [10, 11] hsel (by kernel_rfl) rfl ?_))
       clear hsel
       refine s_want S rfl rfl rfl rfl hb3 (s_lv0 S (rn_geq (S.tm rfl) rfl) rfl ?_);clear S;intro a S
       refine s_lv S rfl (rn_pick_b hb3 (S.tm rfl) (S.tm rfl)) rfl ?_;clear S;intro a S
       refine s_done ?_
       replace S := S.nk [] [(0, V), (9, V), (10, iV (Z.length : Int)), (11, iV (i1 : Int)), (24, V), (25, iV (i1 : Int)), (26, iV (W ((i1 : Int) - 1))), (27, .pointer (some ⟨b4, o3, none⟩)), (28, .agg (GStep.enc (nth Z (W ((i1 : Int) - 1)))).toArray), (29, .agg (GStep.enc y1).toArray), (30, iV (tumbref2_StepOrder (nth Z (W ((i1 : Int) - 1))) y1)), (31, bV (decide (0 ≤ (tumbref2_StepOrder (nth Z (W ((i1 : Int) - 1))) y1)))), (32, bV (decide (0 ≤ (tumbref2_StepOrder (nth Z (W ((i1 : Int) - 1))) y1))))] [false] rfl (subR rfl)
       refine Tn ?_
       exact ⟨decide (0 ≤ (tumbref2_StepOrder (nth Z (W ((i1 : Int) - 1))) y1)), h, S.nf [] rfl (subR rfl)⟩
      ·replace h := iteF h hb3
       refine d_region [] ([]) Tryz.mixed S rfl (by kernel_rfl) ?_;clear S;intro w10 hk7 hsel S
       refine d_rest [0, 1, 2, 3, 4, 5, 6, 7, 8, 9, 10, 11] hsel (by kernel_rfl) rfl ?_
       clear hsel
       refine s_lv S rfl (Rm (S.tm rfl)) rfl ?_;clear S;intro a S
       refine s_lv S rfl (rn_gtr (S.tm rfl) rfl) rfl ?_;clear S;intro a S
       refine s_lv S rfl (Rm (S.tm rfl)) rfl ?_;clear S;intro a S
       iterate 8 (refine s_skip S rfl rfl rfl rfl (neq_f hb3) rfl ?_ rfl;clear S;intro a S)
       refine s_lv S rfl (rn_pick_c hb3 (S.tm rfl) rfl) rfl ?_;clear S;intro a S
       refine s_done ?_
       replace S := S.nk [] [(0, V), (9, V), (10, iV (Z.length : Int)), (11, iV (i1 : Int)), (32, bV false)] [false] rfl (subR rfl)
       refine Tn ?_
       exact ⟨false, h, S.nf [] rfl (subR rfl)⟩
     clear S h;rintro a w6 ⟨x1, h, S⟩;rw [hj2] at h;clear hj2 j2
     refine Tn (f_cond (S.tm rfl) (fun hb4 => ?_) (fun hb4 => ?_))
     ·replace h := iteT h hb4
      refine Fs (Fg (lv S (Ra rfl) rfl ?_));clear S;intro a S
      refine Ld (Tn (wp_ret (blk_r (then_r (then_r (blk_r ?_))))))
      refine then_r (then_r ?_)
      obtain rfl := Option.some.inj h
      exact f_ret S Tryz.results20 rfl rfl
     ·replace h := iteF h hb4
      refine wp_skip (blk_n (Tn (Fg (lv S (rn_add (S.tm rfl) rfl) rfl ?_))));clear S;intro a S
      refine lv S (Rm (S.tm rfl)) rfl ?_;clear S;intro a S
      refine Ld (Tn ?_)
      exact ⟨ys1, ⟨i1 + 1, ⟨_, (hd1).trans (List.append_cons _ _ _), by simp [hi1]⟩, h, S.nf [] rfl ⟨rfl, rfl, rfl, (congrArg (fun z => some (Value.int .i64 z)) (rng_next hd1 hi1 (slc_max Ae))), trivial⟩⟩, Nat.lt_succ_self _⟩
  clear S h;rintro a w2 ⟨h, S⟩;rw [hj1] at h;clear hj1 j1
  refine Tn (Fs (Fg (lv S (Ra rfl) rfl ?_)));clear S;intro a S
  refine Ld (Tn (wp_ret ?_))
  obtain rfl := Option.some.inj h
  exact f_ret S Tryz.results20 rfl rfl
theorem Stream_RightSteps_ok (w : World) (O : Nat) (U : Value) (Af : List Int) (Ag : Slc (view w [O]) 1 U (Af.map eInt)) (Ad : Int) (Aw : (LEnt.blk O [U, iV Ad] 25).holds w) (Ar : Int) (r : (List GStep) × Int) (h : Stream_RightSteps Af Ad Ar = some r) :
    Calls Tryz.prog 5 [.pointer (some ⟨O, 0, none⟩), iV Ar].toArray w (Ret w [O] fun τ v w' => (LEnt.blk O [U, iV r.2] 25).holds w' ∧ OwnV τ 35 8 v r.1.length (r.1.flatMap GStep.enc)) := by
 refine f_enter [O] [.blk O [U, iV Ad] 25] Tryz.func5 rfl Tryz.ntmps5 rfl (fun e he => by simp only [List.mem_singleton] at he;subst he;exact Aw) (by simp [fps, LEnt.fp]) (by simp [fps, LEnt.fp]) fun a S => ?_
 unfold Stream_RightSteps at h
 replace S := S.nk [.blk O [U, iV Ad] 25] [(0, .pointer (some ⟨O, 0, none⟩)), (1, iV Ar)] [true] rfl (subR rfl)
 refine Fs (Fg (lv S (Ra rfl) rfl ?_));clear S;intro a S
 refine Ld (Tn (Fs (Fs (Fg (lv S (Rm rfl) rfl ?_)))));clear S;intro a S
 refine Ld (Tn ?_)
 replace S := S.nk [.blk O [U, iV Ad] 25] [(0, .pointer (some ⟨O, 0, none⟩)), (1, iV Ar), (6, iV 0)] [true] rfl (subR rfl)
 obtain ⟨j1, hj1, h⟩ := joinE h
 refine f_join (fun a w' => ∃ x1 : Int, ∃ φ1 : View, j1 x1 = some r ∧ View.le nov φ1 ∧ Sx w [O] φ1 [.blk O [U, iV x1] 25] [] 16 a w') ?_ ?_
 ·refine wp_block (f_loop (fun (m1 : Nat) a w' => ∃ x1 : Int, ∃ x2 : Int, ∃ φ1 : View, Stream_RightSteps_l1 Af Ar j1 m1 x1 x2 = some r ∧ View.le nov φ1 ∧ Sx w [O] φ1 [.blk O [U, iV x1] 25] [(0, .pointer (some ⟨O, 0, none⟩)), (1, iV Ar), (6, iV x2)] 16 a w') id 7 ⟨Ad, 0, nov, h, View.le_refl _, S.nf [true] rfl (subR rfl)⟩ ?_)
  clear S h;rintro m1 a w1 ⟨x1, x2, φ1, h, hl1, S⟩
  cases m1 with
  | zero => rw [Stream_RightSteps_l1.eq_1] at h;cases h
  | succ m1 =>
   rw [Stream_RightSteps_l1.eq_2] at h
   refine Fs (Fg (lv S (rn_lss (S.tm rfl) rfl) rfl ?_));clear S;intro a S
   refine Ld (Tn (Fs (f_cond (S.tm rfl) (fun hb1 => ?_) (fun hb1 => ?_))))
   ·replace h := iteT h hb1
    refine wp_skip (Tn (Fs (wp_block (Fs (Fg (lv S (Rm (S.tm rfl)) rfl ?_))))));clear S;intro a S
    refine lv S (Rm (S.tm rfl)) rfl ?_;clear S;intro a S
    obtain ⟨r1, hr1, h⟩ := bindE h
    have hz1 := S.keep.size
    refine l_enter1 0 S (b := O) rfl rfl (fun _ => .blk O [U, iV r1.2] 25) (fun _ => run_call (vs := [.pointer (some ⟨O, 0, none⟩), iV Ar]) ⟨(S.tm rfl), (S.tm rfl), trivial⟩ Tryz.call19) (Stream_Steps_ok _ O U Af (Ag.mono (S.le_arg (fp_sub (i := 0) (e := .blk O [U, iV x1] 25) rfl))) x1 (S.holds _ (List.mem_of_getElem? (i := 0) rfl)) Ar _ hr1) rfl (fun _ _ _ h => ⟨h.1, fun _ hc => by cases hc;rfl⟩) ?_;clear S;intro v1 a w3 hv1 hk1 hn1 S
    replace hv1 := hv1.2
    obtain ⟨φ2, hl2, hm1, S⟩ := S.see' hn1 hz1
    have hs1 := hv1.mono hm1
    refine lv S (Ra (S.tm rfl)) rfl ?_;clear S;intro a S
    refine Ld (Tn (Fs (Fg (lv S (Rm (S.tm rfl)) rfl ?_))));clear S;intro a S
    obtain ⟨r2, hr2, h⟩ := bindE h
    refine l_enter S (fun _ => run_call (vs := [v1]) ⟨(S.tm rfl), trivial⟩ Tryz.call20) (tumbref2_StepsFault_ok _ v1 r1.1 ((ownV_slcT GStep.enc_ok hs1).mono (S.le_new nil_sub)) _ hr2) rfl ?_;clear S;intro v2 a w4 hv2 hk2 hn2 S
    subst hv2
    refine lv S (rn_eql (S.tm rfl) rfl) rfl ?_;clear S;intro a S
    refine Ld (Tn (f_cond (S.tm rfl) (fun hb2 => ?_) (fun hb2 => ?_)))
    ·replace h := iteT h hb2
     refine Fs (Fg (lv S (Rm (S.tm rfl)) rfl ?_));clear S;intro a S
     refine lv S (Ra (S.tm rfl)) rfl ?_;clear S;intro a S
     refine Ld (Tn (wp_ret (blk_r (then_r (then_r (blk_r ?_))))))
     refine then_r (then_r ?_)
     obtain rfl := Option.some.inj h
     exact f_ret S Tryz.results5 rfl ⟨(S.holds _ (List.mem_of_getElem? (i := 0) rfl)), ((hs1).mono S.le_newer)⟩
    ·replace h := iteF h hb2
     refine wp_skip (blk_n (Tn (Fg (lv S (rn_add (S.tm rfl) rfl) rfl ?_))));clear S;intro a S
     refine lv S (Rm (S.tm rfl)) rfl ?_;clear S;intro a S
     refine Ld (Tn ?_)
     exact ⟨m1, ⟨r1.2, W (x2 + 1), φ2, h, (View.le_trans hl1 hl2), S.nf [true] rfl ⟨rfl, rfl, rfl, trivial⟩⟩, Nat.lt_succ_self _⟩
   ·replace h := iteF h hb1
    refine wp_exit (then_x (then_x (x_same (Tn ?_))))
    exact ⟨x1, φ1, h, hl1, S.nf [true] rfl trivial⟩
 clear S h;rintro a w2 ⟨x1, φ1, h, hl1, S⟩;rw [hj1] at h;clear hj1 j1
 refine Tn (Fs (Fg (lv S (Ra rfl) rfl ?_)));clear S;intro a S
 refine Ld (Tn (wp_ret ?_))
 obtain rfl := Option.some.inj h
 exact f_ret S Tryz.results5 rfl ⟨(S.holds _ (List.mem_of_getElem? (i := 0) rfl)), (ownV_nil _ _ _)⟩
theorem words_IsMoment_ok (w : World) (Am : Int) (r : Bool) (h : words_IsMoment Am = r) :
    Calls Tryz.prog 26 [iV Am].toArray w (Ret w [] fun _ v _ => v = bV r) := by
 refine f_enter [] [] Tryz.func26 rfl Tryz.ntmps26 rfl (by simp) (by simp [fps]) (by simp [fps]) fun a S => ?_
 unfold words_IsMoment at h
 replace S := S.nk [] [(0, iV Am)] [] rfl ⟨rfl, trivial⟩
 refine Fs (Fg (lv S (Ra rfl) rfl ?_));clear S;intro a S
 refine Ld (Tn (Fs (Fg (lv S (Rm (S.tm rfl)) rfl ?_))));clear S;intro a S
 refine lv S (rn_geq (S.tm rfl) rfl) rfl ?_;clear S;intro a S
 refine lv S (Rm (S.tm rfl)) rfl ?_;clear S;intro a S
 refine f_cutm 3 (fun a w' => Keep [] w w' ∧ Sx w [] nov [] [(8, bV ((decide (0 ≤ Am)) && (decide (Am < 345686400000))))] 9 a w') ?_ ?_
 ·rcases Bool.eq_false_or_eq_true (decide (0 ≤ Am)) with hb1 | hb1
  ·refine l_want S rfl rfl rfl hb1 (lv S (Rm (S.tm rfl)) rfl ?_);clear S;intro a S
   refine l_want S rfl rfl rfl hb1 (lv S (rn_lss (S.tm rfl) rfl) rfl ?_);clear S;intro a S
   refine lv S (rn_and_t hb1 (S.tm rfl) (S.tm rfl)) rfl ?_;clear S;intro a S
   refine Ld (Tn ?_)
   exact ⟨Keep.refl _ _, S.nf [] rfl ⟨rfl, trivial⟩⟩
  ·refine l_skip S rfl rfl rfl (neq_f hb1) rfl ?_ rfl;clear S;intro a S
   refine l_skip S rfl rfl rfl (neq_f hb1) rfl ?_ rfl;clear S;intro a S
   refine lv S (rn_and_f (decide (Am < 345686400000)) hb1 (S.tm rfl) rfl) rfl ?_;clear S;intro a S
   refine Ld (Tn ?_)
   exact ⟨Keep.refl _ _, S.nf [] rfl ⟨rfl, trivial⟩⟩
 clear S;rintro a w1 ⟨hk1, S⟩
 refine lv S (Ra (S.tm rfl)) rfl ?_;clear S;intro a S
 refine Ld (Tn (wp_ret ?_))
 subst h
 exact f_ret S Tryz.results26 rfl rfl
theorem words_Within_ok (w : World) (Am : Int) (Ay : Int) (Av : Int) (r : Bool) (h : words_Within Am Ay Av = r) :
    Calls Tryz.prog 52 [iV Am, iV Ay, iV Av].toArray w (Ret w [] fun _ v _ => v = bV r) := by
 refine f_enter [] [] Tryz.func52 rfl Tryz.ntmps52 rfl (by simp) (by simp [fps]) (by simp [fps]) fun a S => ?_
 unfold words_Within at h
 replace S := S.nk [] [(0, iV Am), (1, iV Ay), (2, iV Av)] [] rfl (subR rfl)
 refine Fs (Fg (lv S (Ra rfl) rfl ?_));clear S;intro a S
 refine Ld (Tn (Fs (Fg (lv S (Rm (S.tm rfl)) rfl ?_))));clear S;intro a S
 refine lv S (Rm (S.tm rfl)) rfl ?_;clear S;intro a S
 refine lv S (rn_geq (S.tm rfl) (S.tm rfl)) rfl ?_;clear S;intro a S
 refine lv S (Rm (S.tm rfl)) rfl ?_;clear S;intro a S
 refine f_cutm 4 (fun a w' => Keep [] w w' ∧ Sx w [] nov [] [(14, bV ((decide (Ay ≤ Am)) && (decide (Am ≤ Av))))] 15 a w') ?_ ?_
 ·rcases Bool.eq_false_or_eq_true (decide (Ay ≤ Am)) with hb1 | hb1
  ·refine l_want S rfl rfl rfl hb1 (lv S (Rm (S.tm rfl)) rfl ?_);clear S;intro a S
   refine l_want S rfl rfl rfl hb1 (lv S (Rm (S.tm rfl)) rfl ?_);clear S;intro a S
   refine l_want S rfl rfl rfl hb1 (lv S (rn_leq (S.tm rfl) (S.tm rfl)) rfl ?_);clear S;intro a S
   refine lv S (rn_and_t hb1 (S.tm rfl) (S.tm rfl)) rfl ?_;clear S;intro a S
   refine Ld (Tn ?_)
   exact ⟨Keep.refl _ _, S.nf [] rfl ⟨rfl, trivial⟩⟩
  ·iterate 3 (refine l_skip S rfl rfl rfl (neq_f hb1) rfl ?_ rfl;clear S;intro a S)
   refine lv S (rn_and_f (decide (Am ≤ Av)) hb1 (S.tm rfl) rfl) rfl ?_;clear S;intro a S
   refine Ld (Tn ?_)
   exact ⟨Keep.refl _ _, S.nf [] rfl ⟨rfl, trivial⟩⟩
 clear S;rintro a w1 ⟨hk1, S⟩
 refine lv S (Ra (S.tm rfl)) rfl ?_;clear S;intro a S
 refine Ld (Tn (wp_ret ?_))
 subst h
 exact f_ret S Tryz.results52 rfl rfl
theorem strings_Trim_ok (w : World) (s c : ByteArray) (r : ByteArray) (h : strings_Trim s c = some r) : Calls Tryz.prog 91 [.string s, .string c].toArray w (Ret w [] fun _ v _ => v = .string r) := by
  unfold strings_Trim at h
  obtain ⟨h1, h⟩ := chkE h
  obtain ⟨h2, h⟩ := chkE h
  obtain ⟨h3, h⟩ := chkE h
  obtain rfl := Option.some.inj h
  exact ret_of_below (Any.strings_Trim_laid Tryz.lays160 (by kernel_rfl) s c w (by simpa using h1) (by simpa using h2) (fun j b hb => by simpa using List.all_eq_true.1 h3 b (List.mem_of_getElem? hb)))
theorem words_IsKey_ok (w : World) (Ab : ByteArray) (r : Bool) (h : words_IsKey Ab = some r) :
    Calls Tryz.prog 69 [sV Ab].toArray w (Ret w [] fun _ v _ => v = bV r) := by
 refine f_enter [] [] Tryz.func69 rfl Tryz.ntmps69 rfl (by simp) (by simp [fps]) (by simp [fps]) fun a S => ?_
 unfold words_IsKey at h
 replace S := S.nk [] [(0, sV Ab)] [] rfl ⟨rfl, trivial⟩
 refine Fs (Fg (lv S (Ra rfl) rfl ?_));clear S;intro a S
 refine Ld (Tn (Fs (Fg (lv S (Rm (S.tm rfl)) rfl ?_))));clear S;intro a S
 refine lv S (rn_len_str Tryz.underlying9 (S.tm rfl)) rfl ?_;clear S;intro a S
 refine lv S (rn_geq (S.tm rfl) rfl) rfl ?_;clear S;intro a S
 refine lv S (Rm (S.tm rfl)) rfl ?_;clear S;intro a S
 refine f_cutm 4 (fun a w' => Keep [] w w' ∧ Sx w [] nov [] [(0, sV Ab), (10, bV ((decide (1 ≤ (Ab.size : Int))) && (decide ((Ab.size : Int) ≤ 40))))] 26 a w') ?_ ?_
 ·rcases Bool.eq_false_or_eq_true (decide (1 ≤ (Ab.size : Int))) with hb1 | hb1
  ·refine l_want S rfl rfl rfl hb1 (lv S (Rm (S.tm rfl)) rfl ?_);clear S;intro a S
   refine l_want S rfl rfl rfl hb1 (lv S (rn_len_str Tryz.underlying9 (S.tm rfl)) rfl ?_);clear S;intro a S
   refine l_want S rfl rfl rfl hb1 (lv S (rn_leq (S.tm rfl) rfl) rfl ?_);clear S;intro a S
   refine lv S (rn_and_t hb1 (S.tm rfl) (S.tm rfl)) rfl ?_;clear S;intro a S
   refine Ld (Tn ?_)
   exact ⟨Keep.refl _ _, S.nf [] rfl (subR rfl)⟩
  ·iterate 3 (refine l_skip S rfl rfl rfl (neq_f hb1) rfl ?_ rfl;clear S;intro a S)
   refine lv S (rn_and_f (decide ((Ab.size : Int) ≤ 40)) hb1 (S.tm rfl) rfl) rfl ?_;clear S;intro a S
   refine Ld (Tn ?_)
   exact ⟨Keep.refl _ _, S.nf [] rfl (subR rfl)⟩
 clear S;rintro a w1 ⟨hk1, S⟩
 refine lv S (Rm (S.tm rfl)) rfl ?_;clear S;intro a S
 obtain ⟨j1, hj1, h⟩ := joinE h
 refine f_cutm 4 (fun a w' => ∃ c1, j1 c1 = some r ∧ Keep [] w1 w' ∧ Sx w [] nov [] [(0, sV Ab), (15, bV c1)] 26 a w') ?_ ?_
 ·rcases Bool.eq_false_or_eq_true ((decide (1 ≤ (Ab.size : Int))) && (decide ((Ab.size : Int) ≤ 40))) with hb2 | hb2
  ·replace h := iteT h hb2
   refine l_want S rfl rfl rfl hb2 (lv S (Rm (S.tm rfl)) rfl ?_);clear S;intro a S
   refine l_want S rfl rfl rfl hb2 ?_
   obtain ⟨hc1, h⟩ := chkE h
   refine lv S (rn_sindexT Tryz.underlying9 (S.tm rfl) rfl hc1) rfl ?_;clear S;intro a S
   refine l_want S rfl rfl rfl hb2 (lv S (rn_geq (S.tm rfl) rfl) rfl ?_);clear S;intro a S
   refine lv S (rn_and_t hb2 (S.tm rfl) (S.tm rfl)) rfl ?_;clear S;intro a S
   refine Ld (Tn ?_)
   exact ⟨_, h, Keep.refl _ _, S.nf [] rfl (subR rfl)⟩
  ·replace h := iteF h hb2
   iterate 3 (refine l_skip S rfl rfl rfl (neq_f hb2) rfl ?_ rfl;clear S;intro a S)
   refine lv S (rn_and_f true hb2 (S.tm rfl) rfl) rfl ?_;clear S;intro a S
   refine Ld (Tn ?_)
   exact ⟨_, h, Keep.refl _ _, S.nf [] rfl (subR rfl)⟩
 clear S h;rintro a w2 ⟨c1, h, hk2, S⟩;rw [hj1] at h;clear hj1 j1
 refine lv S (Rm (S.tm rfl)) rfl ?_;clear S;intro a S
 obtain ⟨j2, hj2, h⟩ := joinE h
 refine f_cutm 4 (fun a w' => ∃ c2, j2 c2 = some r ∧ Keep [] w2 w' ∧ Sx w [] nov [] [(0, sV Ab), (20, bV c2)] 26 a w') ?_ ?_
 ·rcases Bool.eq_false_or_eq_true c1 with hb3 | hb3
  ·replace h := iteT h hb3
   refine l_want S rfl rfl rfl hb3 (lv S (Rm (S.tm rfl)) rfl ?_);clear S;intro a S
   refine l_want S rfl rfl rfl hb3 ?_
   obtain ⟨hc2, h⟩ := chkE h
   refine lv S (rn_sindexT Tryz.underlying9 (S.tm rfl) rfl hc2) rfl ?_;clear S;intro a S
   refine l_want S rfl rfl rfl hb3 (lv S (rn_leq (S.tm rfl) rfl) rfl ?_);clear S;intro a S
   refine lv S (rn_and_t hb3 (S.tm rfl) (S.tm rfl)) rfl ?_;clear S;intro a S
   refine Ld (Tn ?_)
   exact ⟨_, h, Keep.refl _ _, S.nf [] rfl (subR rfl)⟩
  ·replace h := iteF h hb3
   iterate 3 (refine l_skip S rfl rfl rfl (neq_f hb3) rfl ?_ rfl;clear S;intro a S)
   refine lv S (rn_and_f true hb3 (S.tm rfl) rfl) rfl ?_;clear S;intro a S
   refine Ld (Tn ?_)
   exact ⟨_, h, Keep.refl _ _, S.nf [] rfl (subR rfl)⟩
 clear S h;rintro a w3 ⟨c2, h, hk3, S⟩;rw [hj2] at h;clear hj2 j2
 refine lv S (Rm (S.tm rfl)) rfl ?_;clear S;intro a S
 obtain ⟨j3, hj3, h⟩ := joinE h
 refine f_cutm 4 (fun a w' => ∃ c3, j3 c3 = some r ∧ Keep [] w3 w' ∧ Sx w [] nov [] [(25, bV c3)] 26 a w') ?_ ?_
 ·rcases Bool.eq_false_or_eq_true c2 with hb4 | hb4
  ·replace h := iteT h hb4
   refine l_want S rfl rfl rfl hb4 (lv S (Rm (S.tm rfl)) rfl ?_);clear S;intro a S
   refine l_want S rfl rfl rfl hb4 ?_
   obtain ⟨r1, hr1, h⟩ := bindE h
   refine l_enter S (fun _ => run_call (vs := [sV Ab, sV k_abcdefghijkl_h0e2e2c]) ⟨(S.tm rfl), rfl, trivial⟩ Tryz.call91) (strings_Trim_ok _ Ab k_abcdefghijkl_h0e2e2c _ hr1) rfl ?_;clear S;intro v1 a w5 hv1 hk4 hn1 S
   subst hv1
   refine l_want S rfl rfl rfl hb4 (lv S (rn_seql (S.tm rfl) rfl) rfl ?_);clear S;intro a S
   refine lv S (rn_and_t hb4 (S.tm rfl) (S.tm rfl)) rfl ?_;clear S;intro a S
   refine Ld (Tn ?_)
   exact ⟨_, h, hk4, S.nf [] rfl ⟨rfl, trivial⟩⟩
  ·replace h := iteF h hb4
   iterate 3 (refine l_skip S rfl rfl rfl (neq_f hb4) rfl ?_ rfl;clear S;intro a S)
   refine lv S (rn_and_f true hb4 (S.tm rfl) rfl) rfl ?_;clear S;intro a S
   refine Ld (Tn ?_)
   exact ⟨_, h, Keep.refl _ _, S.nf [] rfl ⟨rfl, trivial⟩⟩
 clear S h;rintro a w4 ⟨c3, h, hk5, S⟩;rw [hj3] at h;clear hj3 j3
 refine lv S (Ra (S.tm rfl)) rfl ?_;clear S;intro a S
 refine Ld (Tn (wp_ret ?_))
 obtain rfl := Option.some.inj h
 exact f_ret S Tryz.results69 rfl rfl
theorem timing_IsTime_ok (w : World) (Am : Int) (r : Bool) (h : timing_IsTime Am = r) :
    Calls Tryz.prog 60 [iV Am].toArray w (Ret w [] fun _ v _ => v = bV r) := by
 refine f_enter [] [] Tryz.func60 rfl Tryz.ntmps60 rfl (by simp) (by simp [fps]) (by simp [fps]) fun a S => ?_
 unfold timing_IsTime at h
 replace S := S.nk [] [(0, iV Am)] [] rfl ⟨rfl, trivial⟩
 refine Fs (Fg (lv S (Ra rfl) rfl ?_));clear S;intro a S
 refine Ld (Tn (Fs (Fg (lv S (Rm (S.tm rfl)) rfl ?_))));clear S;intro a S
 refine l_enter S (fun _ => run_call (vs := [iV Am, iV 1, iV 360000]) ⟨(S.tm rfl), rfl, rfl, trivial⟩ Tryz.call52) (words_Within_ok _ Am 1 360000 _ rfl) rfl ?_;clear S;intro v1 a w1 hv1 hk1 hn1 S
 subst hv1
 refine lv S (Ra (S.tm rfl)) rfl ?_;clear S;intro a S
 refine Ld (Tn (wp_ret ?_))
 subst h
 exact f_ret S Tryz.results60 rfl rfl
theorem record_checkStep_ok (w : World) (Ah : GStep) (r : Int) (h : record_checkStep Ah = some r) :
    Calls Tryz.prog 44 [.agg (GStep.enc Ah).toArray].toArray w (Ret w [] fun _ v _ => v = iV r) := by
 refine f_enter [] [] Tryz.func44 rfl Tryz.ntmps44 rfl (by simp) (by simp [fps]) (by simp [fps]) fun a S => ?_
 unfold record_checkStep at h
 replace S := S.nk [] [(0, .agg (GStep.enc Ah).toArray)] [] rfl ⟨rfl, trivial⟩
 refine Fs (Fg (l_box S (S.tm rfl) (cs := (GStep.enc Ah)) rfl rfl ?_));clear S;intro a w1 b1 hz1 hk1 S
 refine lv S (Ra rfl) rfl ?_;clear S;intro a S
 refine Ld (Tn (Fs ?_))
 obtain ⟨j1, hj1, h⟩ := joinE h
 refine f_join (fun a w' => j1 = some r ∧ Sx w [] nov [] [] 64 a w') ?_ ?_
 ·refine wp_block (Fs (Fg (lv S (rn_fld fa_35_0 (S.tm rfl)) rfl ?_)));clear S;intro a S
  refine lv S (rn_load Tryz.isAgg3 (S.tm rfl) (S.cell (i := 0) rfl rfl)) rfl ?_;clear S;intro a S
  refine l_enter S (fun _ => run_call (vs := [iV Ah.At]) ⟨(S.tm rfl), trivial⟩ Tryz.call26) (words_IsMoment_ok _ Ah.At _ rfl) rfl ?_;clear S;intro v1 a w3 hv1 hk2 hn1 S
  subst hv1
  refine lv S (rn_not (S.tm rfl)) rfl ?_;clear S;intro a S
  refine lv S (Ra (S.tm rfl)) rfl ?_;clear S;intro a S
  refine Ld (Tn (f_cond (S.tm rfl) (fun hb1 => ?_) (fun hb1 => ?_)))
  ·replace h := iteT h hb1
   refine Fs (Fg (lv S (Ra rfl) rfl ?_));clear S;intro a S
   refine Ld (Tn (wp_ret (blk_r (then_r (then_r ?_)))))
   obtain rfl := Option.some.inj h
   exact f_ret S Tryz.results44 rfl rfl
  ·replace h := iteF h hb1
   refine Fs (Fg (lv S (rn_fld fa_35_1 (S.tm rfl)) rfl ?_));clear S;intro a S
   refine lv S (rn_load Tryz.isAgg3 (S.tm rfl) (S.cell (i := 0) rfl rfl)) rfl ?_;clear S;intro a S
   refine l_enter S (fun _ => run_call (vs := [iV Ah.Kind, iV 1, iV 3]) ⟨(S.tm rfl), rfl, rfl, trivial⟩ Tryz.call52) (words_Within_ok _ Ah.Kind 1 3 _ rfl) rfl ?_;clear S;intro v2 a w4 hv2 hk3 hn2 S
   subst hv2
   refine lv S (rn_not (S.tm rfl)) rfl ?_;clear S;intro a S
   refine lv S (Ra (S.tm rfl)) rfl ?_;clear S;intro a S
   refine Ld (Tn (f_cond (S.tm rfl) (fun hb2 => ?_) (fun hb2 => ?_)))
   ·replace h := iteT h hb2
    refine Fs (Fg (lv S (Ra rfl) rfl ?_));clear S;intro a S
    refine Ld (Tn (wp_ret (blk_r (then_r (then_r ?_)))))
    obtain rfl := Option.some.inj h
    exact f_ret S Tryz.results44 rfl rfl
   ·replace h := iteF h hb2
    refine Fs (Fg (lv S (rn_fld fa_35_2 (S.tm rfl)) rfl ?_));clear S;intro a S
    refine lv S (rn_load Tryz.isAgg9 (S.tm rfl) (S.cell (i := 0) rfl rfl)) rfl ?_;clear S;intro a S
    obtain ⟨r1, hr1, h⟩ := bindE h
    refine l_enter S (fun _ => run_call (vs := [sV Ah.Id]) ⟨(S.tm rfl), trivial⟩ Tryz.call69) (words_IsKey_ok _ Ah.Id _ hr1) rfl ?_;clear S;intro v3 a w5 hv3 hk4 hn3 S
    subst hv3
    refine lv S (rn_not (S.tm rfl)) rfl ?_;clear S;intro a S
    refine lv S (Ra (S.tm rfl)) rfl ?_;clear S;intro a S
    refine Ld ?_
    replace S := S.nk [.blk b1 (GStep.enc Ah) 35] [(1, .pointer (some ⟨b1, 0, none⟩)), (13, bV (!r1))] [true] rfl (subR rfl)
    refine Tn (f_cond (S.tm rfl) (fun hb3 => ?_) (fun hb3 => ?_))
    ·replace h := iteT h hb3
     refine Fs (Fg (lv S (Ra rfl) rfl ?_));clear S;intro a S
     refine Ld (Tn (wp_ret (blk_r (then_r (then_r ?_)))))
     obtain rfl := Option.some.inj h
     exact f_ret S Tryz.results44 rfl rfl
    ·replace h := iteF h hb3
     refine Fs (Fg (lv S (rn_fld fa_35_1 (S.tm rfl)) rfl ?_));clear S;intro a S
     refine lv S (rn_load Tryz.isAgg3 (S.tm rfl) (S.cell (i := 0) rfl rfl)) rfl ?_;clear S;intro a S
     refine lv S (rn_neq (S.tm rfl) rfl) rfl ?_;clear S;intro a S
     refine lv S (Ra (S.tm rfl)) rfl ?_;clear S;intro a S
     refine Ld (Tn ?_)
     obtain ⟨j2, hj2, h⟩ := joinE h
     refine f_join (fun a w' => j2 = some r ∧ Sx w [] nov [] [] 64 a w') ?_ ?_
     ·refine f_cond (S.tm rfl) (fun hb4 => ?_) (fun hb4 => ?_)
      ·replace h := iteT h hb4
       refine Fs (Fg (lv S (rn_ldA Tryz.isAgg35 Tryz.sizeOf35 (off := 0) (o := 0) (part := (GStep.enc Ah)) rfl rfl (S.tm rfl) (S.cellsAt (i := 0) rfl)) rfl ?_));clear S;intro a S
       refine lv S (rn_fld fa_35_0 (S.tm rfl)) rfl ?_;clear S;intro a S
       refine lv S (rn_load Tryz.isAgg3 (S.tm rfl) (S.cell (i := 0) rfl rfl)) rfl ?_;clear S;intro a S
       refine lv S (rn_fld fa_35_1 (S.tm rfl)) rfl ?_;clear S;intro a S
       refine lv S (rn_load Tryz.isAgg3 (S.tm rfl) (S.cell (i := 0) rfl rfl)) rfl ?_;clear S;intro a S
       refine lv S (rn_fld fa_35_2 (S.tm rfl)) rfl ?_;clear S;intro a S
       refine lv S (rn_load Tryz.isAgg9 (S.tm rfl) (S.cell (i := 0) rfl rfl)) rfl ?_;clear S;intro a S
       refine lv S (rn_bld bt_35 (pv := [(0, iV Ah.At), (1, iV Ah.Kind), (2, sV Ah.Id)]) ⟨rfl, (S.tm rfl), rfl, (S.tm rfl), rfl, (S.tm rfl), trivial⟩ (cs := [iV Ah.At, iV Ah.Kind, sV Ah.Id, sV k_empty, sV k_empty, sV k_empty, iV 0, iV 0]) (by kernel_rfl)) rfl ?_;clear S;intro a S
       refine lv S (rn_neq_35 (m := Ah) (n := (GStep.mk Ah.At Ah.Kind Ah.Id k_empty k_empty k_empty 0 0)) (S.tm rfl) (S.tm rfl)) rfl ?_;clear S;intro a S
       refine Ld ?_
       replace S := S.nk [] [(30, bV (!decide (Ah = (GStep.mk Ah.At Ah.Kind Ah.Id k_empty k_empty k_empty 0 0))))] [false] rfl ⟨rfl, trivial⟩
       refine Tn (f_cond (S.tm rfl) (fun hb5 => ?_) (fun hb5 => ?_))
       ·replace h := iteT h hb5
        refine Fs (Fg (lv S (Ra rfl) rfl ?_));clear S;intro a S
        refine Ld (Tn (wp_ret (then_r (blk_r (then_r (then_r ?_))))))
        obtain rfl := Option.some.inj h
        exact f_ret S Tryz.results44 rfl rfl
       ·replace h := iteF h hb5
        refine wp_skip (Tn ?_)
        exact ⟨h, S.nf [] rfl trivial⟩
      ·replace h := iteF h hb4
       refine Fs (Fg (lv S (rn_fld fa_35_3 (S.tm rfl)) rfl ?_));clear S;intro a S
       refine lv S (rn_load Tryz.isAgg9 (S.tm rfl) (S.cell (i := 0) rfl rfl)) rfl ?_;clear S;intro a S
       obtain ⟨r2, hr2, h⟩ := bindE h
       refine l_enter S (fun _ => run_call (vs := [sV Ah.Who]) ⟨(S.tm rfl), trivial⟩ Tryz.call69) (words_IsKey_ok _ Ah.Who _ hr2) rfl ?_;clear S;intro v4 a w7 hv4 hk5 hn4 S
       subst hv4
       refine lv S (rn_not (S.tm rfl)) rfl ?_;clear S;intro a S
       refine lv S (Rm (S.tm rfl)) rfl ?_;clear S;intro a S
       obtain ⟨j3, hj3, h⟩ := joinE h
       refine f_cutm 5 (fun a w' => ∃ c1, j3 c1 = some r ∧ Keep [] w7 w' ∧ Sx w [] nov [.blk b1 (GStep.enc Ah) 35] [(1, .pointer (some ⟨b1, 0, none⟩)), (41, bV c1)] 64 a w') ?_ ?_
       ·rcases Bool.eq_false_or_eq_true (!r2) with hb6 | hb6
        ·replace h := iteT h hb6
         iterate 4 (refine l_skip S rfl rfl rfl (neq_t hb6) rfl ?_ rfl;clear S;intro a S)
         refine lv S (rn_or_t true hb6 (S.tm rfl) rfl) rfl ?_;clear S;intro a S
         refine Ld (Tn ?_)
         exact ⟨_, h, Keep.refl _ _, S.nf [true] rfl (subR rfl)⟩
        ·replace h := iteF h hb6
         refine l_want S rfl rfl rfl hb6 (lv S (rn_fld fa_35_5 (S.tm rfl)) rfl ?_);clear S;intro a S
         refine l_want S rfl rfl rfl hb6 (lv S (rn_load Tryz.isAgg9 (S.tm rfl) (S.cell (i := 0) rfl rfl)) rfl ?_);clear S;intro a S
         refine l_want S rfl rfl rfl hb6 ?_
         obtain ⟨r3, hr3, h⟩ := bindE h
         refine l_enter S (fun _ => run_call (vs := [sV Ah.Race]) ⟨(S.tm rfl), trivial⟩ Tryz.call69) (words_IsKey_ok _ Ah.Race _ hr3) rfl ?_;clear S;intro v5 a w9 hv5 hk6 hn5 S
         subst hv5
         refine l_want S rfl rfl rfl hb6 (lv S (rn_not (S.tm rfl)) rfl ?_);clear S;intro a S
         refine lv S (rn_or_f hb6 (S.tm rfl) (S.tm rfl)) rfl ?_;clear S;intro a S
         refine Ld (Tn ?_)
         exact ⟨_, h, hk6, S.nf [true] rfl (subR rfl)⟩
       clear S h;rintro a w8 ⟨c1, h, hk7, S⟩;rw [hj3] at h;clear hj3 j3
       refine lv S (Rm (S.tm rfl)) rfl ?_;clear S;intro a S
       obtain ⟨j4, hj4, h⟩ := joinE h
       refine f_cutm 10 (fun a w' => ∃ c2, j4 c2 = some r ∧ Keep [] w8 w' ∧ Sx w [] nov [.blk b1 (GStep.enc Ah) 35] [(1, .pointer (some ⟨b1, 0, none⟩)), (52, bV c2)] 64 a w') ?_ ?_
       ·rcases Bool.eq_false_or_eq_true c1 with hb7 | hb7
        ·replace h := iteT h hb7
         iterate 4 (refine l_skip S rfl rfl rfl (neq_t hb7) rfl ?_ rfl;clear S;intro a S)
         iterate 4 (refine l_skipU S rfl rfl rfl rfl ?_;clear S;intro a S)
         refine l_skip S rfl rfl rfl (neq_t hb7) rfl ?_ rfl;clear S;intro a S
         refine lv S (rn_or_t true hb7 (S.tm rfl) rfl) rfl ?_;clear S;intro a S
         refine Ld (Tn ?_)
         exact ⟨_, h, Keep.refl _ _, S.nf [true] rfl (subR rfl)⟩
        ·replace h := iteF h hb7
         refine l_want S rfl rfl rfl hb7 (lv S (rn_fld fa_35_4 (S.tm rfl)) rfl ?_);clear S;intro a S
         refine l_want S rfl rfl rfl hb7 (lv S (rn_load Tryz.isAgg9 (S.tm rfl) (S.cell (i := 0) rfl rfl)) rfl ?_);clear S;intro a S
         refine l_want S rfl rfl rfl hb7 (lv S (rn_sneq (S.tm rfl) rfl) rfl ?_);clear S;intro a S
         refine l_want S rfl rfl rfl hb7 (lv S (Rm (S.tm rfl)) rfl ?_);clear S;intro a S
         obtain ⟨j5, hj5, h⟩ := joinE h
         refine f_cutm 5 (fun a w' => ∃ c3, j5 c3 = some r ∧ Keep [] w8 w' ∧ Sx w [] nov [.blk b1 (GStep.enc Ah) 35] [(1, .pointer (some ⟨b1, 0, none⟩)), (42, bV c1), (51, bV c3)] 64 a w') ?_ ?_
         ·rcases Bool.eq_false_or_eq_true (!decide (Ah.Club = k_empty)) with hb8 | hb8
          ·replace h := iteT h hb8
           refine l_want S rfl rfl rfl hb8 (lv S (rn_fld fa_35_4 (S.tm rfl)) rfl ?_);clear S;intro a S
           refine l_want S rfl rfl rfl hb8 (lv S (rn_load Tryz.isAgg9 (S.tm rfl) (S.cell (i := 0) rfl rfl)) rfl ?_);clear S;intro a S
           refine l_want S rfl rfl rfl hb8 ?_
           obtain ⟨r4, hr4, h⟩ := bindE h
           refine l_enter S (fun _ => run_call (vs := [sV Ah.Club]) ⟨(S.tm rfl), trivial⟩ Tryz.call69) (words_IsKey_ok _ Ah.Club _ hr4) rfl ?_;clear S;intro v6 a w12 hv6 hk8 hn6 S
           subst hv6
           refine l_want S rfl rfl rfl hb8 (lv S (rn_not (S.tm rfl)) rfl ?_);clear S;intro a S
           refine l_want S rfl rfl rfl hb7 (lv S (rn_and_t hb8 (S.tm rfl) (S.tm rfl)) rfl ?_);clear S;intro a S
           refine Ld (Tn ?_)
           exact ⟨_, h, hk8, S.nf [true] rfl (subR rfl)⟩
          ·replace h := iteF h hb8
           iterate 4 (refine l_skip S rfl rfl rfl (neq_f hb8) rfl ?_ rfl;clear S;intro a S)
           refine l_want S rfl rfl rfl hb7 (lv S (rn_and_f true hb8 (S.tm rfl) rfl) rfl ?_);clear S;intro a S
           refine Ld (Tn ?_)
           exact ⟨_, h, Keep.refl _ _, S.nf [true] rfl (subR rfl)⟩
         clear S h;rintro a w11 ⟨c3, h, hk9, S⟩;rw [hj5] at h;clear hj5 j5
         refine lv S (rn_or_f hb7 (S.tm rfl) (S.tm rfl)) rfl ?_;clear S;intro a S
         refine Ld (Tn ?_)
         exact ⟨_, h, hk9, S.nf [true] rfl (subR rfl)⟩
       clear S h;rintro a w10 ⟨c2, h, hk10, S⟩;rw [hj4] at h;clear hj4 j4
       refine lv S (Ra (S.tm rfl)) rfl ?_;clear S;intro a S
       refine Ld (Tn (f_cond (S.tm rfl) (fun hb9 => ?_) (fun hb9 => ?_)))
       ·replace h := iteT h hb9
        refine Fs (Fg (lv S (Ra rfl) rfl ?_));clear S;intro a S
        refine Ld (Tn (wp_ret (then_r (blk_r (then_r (then_r ?_))))))
        obtain rfl := Option.some.inj h
        exact f_ret S Tryz.results44 rfl rfl
       ·replace h := iteF h hb9
        refine Fs (Fg (lv S (rn_fld fa_35_6 (S.tm rfl)) rfl ?_));clear S;intro a S
        refine lv S (rn_load Tryz.isAgg3 (S.tm rfl) (S.cell (i := 0) rfl rfl)) rfl ?_;clear S;intro a S
        refine l_enter S (fun _ => run_call (vs := [iV Ah.Age, iV 0, iV 150]) ⟨(S.tm rfl), rfl, rfl, trivial⟩ Tryz.call52) (words_Within_ok _ Ah.Age 0 150 _ rfl) rfl ?_;clear S;intro v7 a w13 hv7 hk11 hn7 S
        subst hv7
        refine lv S (rn_not (S.tm rfl)) rfl ?_;clear S;intro a S
        refine lv S (Rm (S.tm rfl)) rfl ?_;clear S;intro a S
        refine f_cutm 5 (fun a w' => Keep [] w13 w' ∧ Sx w [] nov [.blk b1 (GStep.enc Ah) 35] [(63, bV ((!(words_Within Ah.Age 0 150)) || (!(timing_IsTime Ah.Time))))] 64 a w') ?_ ?_
        ·rcases Bool.eq_false_or_eq_true (!(words_Within Ah.Age 0 150)) with hb10 | hb10
         ·iterate 4 (refine l_skip S rfl rfl rfl (neq_t hb10) rfl ?_ rfl;clear S;intro a S)
          refine lv S (rn_or_t (!(timing_IsTime Ah.Time)) hb10 (S.tm rfl) rfl) rfl ?_;clear S;intro a S
          refine Ld (Tn ?_)
          exact ⟨Keep.refl _ _, S.nf [true] rfl ⟨rfl, trivial⟩⟩
         ·refine l_want S rfl rfl rfl hb10 (lv S (rn_fld fa_35_7 (S.tm rfl)) rfl ?_);clear S;intro a S
          refine l_want S rfl rfl rfl hb10 (lv S (rn_load Tryz.isAgg3 (S.tm rfl) (S.cell (i := 0) rfl rfl)) rfl ?_);clear S;intro a S
          refine l_want S rfl rfl rfl hb10 (l_enter S (fun _ => run_call (vs := [iV Ah.Time]) ⟨(S.tm rfl), trivial⟩ Tryz.call60) (timing_IsTime_ok _ Ah.Time _ rfl) rfl ?_);clear S;intro v8 a w15 hv8 hk12 hn8 S
          subst hv8
          refine l_want S rfl rfl rfl hb10 (lv S (rn_not (S.tm rfl)) rfl ?_);clear S;intro a S
          refine lv S (rn_or_f hb10 (S.tm rfl) (S.tm rfl)) rfl ?_;clear S;intro a S
          refine Ld (Tn ?_)
          exact ⟨hk12, S.nf [true] rfl ⟨rfl, trivial⟩⟩
        clear S;rintro a w14 ⟨hk13, S⟩
        refine lv S (Ra (S.tm rfl)) rfl ?_;clear S;intro a S
        refine Ld (Tn (f_cond (S.tm rfl) (fun hb11 => ?_) (fun hb11 => ?_)))
        ·replace h := iteT h hb11
         refine Fs (Fg (lv S (Ra rfl) rfl ?_));clear S;intro a S
         refine Ld (Tn (wp_ret (then_r (blk_r (then_r (then_r ?_))))))
         obtain rfl := Option.some.inj h
         exact f_ret S Tryz.results44 rfl rfl
        ·replace h := iteF h hb11
         refine wp_skip (Tn ?_)
         exact ⟨h, S.nf [false] rfl trivial⟩
     clear S h;rintro a w6 ⟨h, S⟩;rw [hj2] at h;clear hj2 j2
     refine blk_n (Tn ?_)
     exact ⟨h, S.nf [] rfl trivial⟩
 clear S h;rintro a w2 ⟨h, S⟩;rw [hj1] at h;clear hj1 j1
 refine Tn (Fs (Fg (lv S (Ra rfl) rfl ?_)));clear S;intro a S
 refine Ld (Tn (wp_ret ?_))
 obtain rfl := Option.some.inj h
 exact f_ret S Tryz.results44 rfl rfl
theorem cmp_isNaN_int_ok (w : World) (Ah : Int) (r : Bool) (h : cmp_isNaN_int Ah = r) :
    Calls Tryz.prog 71 [iV Ah].toArray w (Ret w [] fun _ v _ => v = bV r) := by
 refine f_enter [] [] Tryz.func71 rfl Tryz.ntmps71 rfl (by simp) (by simp [fps]) (by simp [fps]) fun a S => ?_
 unfold cmp_isNaN_int at h
 replace S := S.nk [] [(0, iV Ah)] [] rfl ⟨rfl, trivial⟩
 refine Fs (Fg (lv S (Ra rfl) rfl ?_));clear S;intro a S
 refine Ld (Tn (Fs (Fg (lv S (Rm (S.tm rfl)) rfl ?_))));clear S;intro a S
 refine lv S (Rm (S.tm rfl)) rfl ?_;clear S;intro a S
 refine lv S (rn_neq (S.tm rfl) (S.tm rfl)) rfl ?_;clear S;intro a S
 refine lv S (Ra (S.tm rfl)) rfl ?_;clear S;intro a S
 refine Ld (Tn (wp_ret ?_))
 subst h
 exact f_ret S Tryz.results71 rfl rfl
theorem cmp_Compare_int_ok (w : World) (Ah : Int) (Aj : Int) (r : Int) (h : cmp_Compare_int Ah Aj = r) :
    Calls Tryz.prog 48 [iV Ah, iV Aj].toArray w (Ret w [] fun _ v _ => v = iV r) := by
 refine f_enter [] [] Tryz.func48 rfl Tryz.ntmps48 rfl (by simp) (by simp [fps]) (by simp [fps]) fun a S => ?_
 unfold cmp_Compare_int at h
 replace S := S.nk [] [(0, iV Ah), (1, iV Aj)] [] rfl (subR rfl)
 refine Fs (Fg (lv S (Ra rfl) rfl ?_));clear S;intro a S
 refine Ld (Tn (Fs (Fg (lv S (Rm (S.tm rfl)) rfl ?_))));clear S;intro a S
 refine l_enter S (fun _ => run_call (vs := [iV Ah]) ⟨(S.tm rfl), trivial⟩ Tryz.call71) (cmp_isNaN_int_ok _ Ah _ rfl) rfl ?_;clear S;intro v1 a w1 hv1 hk1 hn1 S
 subst hv1
 refine lv S (Ra (S.tm rfl)) rfl ?_;clear S;intro a S
 refine Ld (Tn (Fs (Fg (lv S (Rm (S.tm rfl)) rfl ?_))));clear S;intro a S
 refine l_enter S (fun _ => run_call (vs := [iV Aj]) ⟨(S.tm rfl), trivial⟩ Tryz.call71) (cmp_isNaN_int_ok _ Aj _ rfl) rfl ?_;clear S;intro v2 a w2 hv2 hk2 hn2 S
 subst hv2
 refine lv S (Ra (S.tm rfl)) rfl ?_;clear S;intro a S
 refine Ld (Tn (Fs (Fs (Fg (lv S (Rm (S.tm rfl)) rfl ?_)))));clear S;intro a S
 refine Ld (Tn (f_cond (S.tm rfl) (fun hb1 => ?_) (fun hb1 => ?_)))
 ·replace h := iteT h hb1
  refine Fs (Fs (Fg (lv S (Rm (S.tm rfl)) rfl ?_)));clear S;intro a S
  refine Ld (Tn (f_cond (S.tm rfl) (fun hb2 => ?_) (fun hb2 => ?_)))
  ·replace h := iteT h hb2
   refine Fs (Fg (lv S (Ra rfl) rfl ?_));clear S;intro a S
   refine Ld (Tn (wp_ret (then_r (then_r ?_))))
   subst h
   exact f_ret S Tryz.results48 rfl rfl
  ·replace h := iteF h hb2
   refine wp_skip (Tn (Fs (Fg (lv S (Ra rfl) rfl ?_))));clear S;intro a S
   refine Ld (Tn (wp_ret (then_r ?_)))
   subst h
   exact f_ret S Tryz.results48 rfl rfl
 ·replace h := iteF h hb1
  refine wp_skip (Tn (Fs (Fs (Fg (lv S (Rm (S.tm rfl)) rfl ?_)))));clear S;intro a S
  refine Ld (Tn (f_cond (S.tm rfl) (fun hb3 => ?_) (fun hb3 => ?_)))
  ·replace h := iteT h hb3
   refine Fs (Fg (lv S (Ra rfl) rfl ?_));clear S;intro a S
   refine Ld (Tn (wp_ret (then_r ?_)))
   subst h
   exact f_ret S Tryz.results48 rfl rfl
  ·replace h := iteF h hb3
   refine wp_skip (Tn (Fs (Fs (Fg (lv S (Rm (S.tm rfl)) rfl ?_)))));clear S;intro a S
   refine lv S (Rm (S.tm rfl)) rfl ?_;clear S;intro a S
   refine lv S (rn_lss (S.tm rfl) (S.tm rfl)) rfl ?_;clear S;intro a S
   refine Ld (Tn (f_cond (S.tm rfl) (fun hb4 => ?_) (fun hb4 => ?_)))
   ·replace h := iteT h hb4
    refine Fs (Fg (lv S (Ra rfl) rfl ?_));clear S;intro a S
    refine Ld (Tn (wp_ret (then_r ?_)))
    subst h
    exact f_ret S Tryz.results48 rfl rfl
   ·replace h := iteF h hb4
    refine wp_skip (Tn (Fs (Fs (Fg (lv S (Rm (S.tm rfl)) rfl ?_)))));clear S;intro a S
    refine lv S (Rm (S.tm rfl)) rfl ?_;clear S;intro a S
    refine lv S (rn_gtr (S.tm rfl) (S.tm rfl)) rfl ?_;clear S;intro a S
    refine Ld ?_
    replace S := S.nk [] [(19, bV (decide (Aj < Ah)))] [] rfl ⟨rfl, trivial⟩
    refine Tn (f_cond (S.tm rfl) (fun hb5 => ?_) (fun hb5 => ?_))
    ·replace h := iteT h hb5
     refine Fs (Fg (lv S (Ra rfl) rfl ?_));clear S;intro a S
     refine Ld (Tn (wp_ret (then_r ?_)))
     subst h
     exact f_ret S Tryz.results48 rfl rfl
    ·replace h := iteF h hb5
     refine wp_skip (Tn (Fs (Fg (lv S (Ra rfl) rfl ?_))));clear S;intro a S
     refine Ld (Tn (wp_ret ?_))
     subst h
     exact f_ret S Tryz.results48 rfl rfl
theorem cmp_Or_int_ok (w : World) (Bt : Value) (Br : List Int) (Ck : Slc (view w []) 1 Bt (Br.map eInt)) (r : Int) (h : cmp_Or_int Br = r) :
    Calls Tryz.prog 47 [Bt].toArray w (Ret w [] fun _ v _ => v = iV r) := by
 refine f_enter [] [] Tryz.func47 rfl Tryz.ntmps47 rfl (by simp) (by simp [fps]) (by simp [fps]) fun a S => ?_
 unfold cmp_Or_int at h
 replace S := S.nk [] [(0, Bt)] [] rfl ⟨rfl, trivial⟩
 refine Fs (Fg (lv S (Ra rfl) rfl ?_));clear S;intro a S
 refine Ld (Tn (Fs (Fg (lv S (Ra rfl) rfl ?_))));clear S;intro a S
 refine Ld (Tn (Fs (Fs (Fg (lv S (Rm (S.tm rfl)) rfl ?_)))));clear S;intro a S
 refine lv S (rn_lenT sl_22 (S.tm rfl) (slc_len Ck)) rfl ?_;clear S;intro a S
 refine lv S (Rm rfl) rfl ?_;clear S;intro a S
 refine Ld (Tn ?_)
 replace S := S.nk [] [(3, iV 0), (6, Bt), (7, iV (Br.length : Int)), (8, iV 0)] [] rfl (subR rfl)
 obtain ⟨j1, hj1, h⟩ := joinE h
 refine f_join (fun a w' => j1 = r ∧ Sx w [] nov [] [(3, iV 0)] 18 a w') ?_ ?_
 ·refine wp_block (f_loop (fun (ys1 : List Int) a w' => ∃ i1 : Nat, (∃ dn, Br = dn ++ ys1 ∧ dn.length = i1) ∧ cmp_Or_int_l1 j1 ys1 i1 = r ∧ Sx w [] nov [] [(3, iV 0), (6, Bt), (7, iV (Br.length : Int)), (8, iV (i1 : Int))] 18 a w') List.length Br ⟨0, ⟨[], rfl, rfl⟩, h, S.nf [] rfl (subR rfl)⟩ ?_)
  clear S h;rintro ys1 a w1 ⟨i1, ⟨dn, hd1, hi1⟩, h, S⟩
  cases ys1 with
  | nil =>
   rw [cmp_Or_int_l1.eq_1] at h
   refine Fs (Fg (lv S (rn_lss (S.tm rfl) (S.tm rfl)) rfl ?_));clear S;intro a S
   refine Ld ?_
   replace S := S.nk [] [(3, iV 0), (6, Bt), (7, iV (Br.length : Int)), (8, iV (i1 : Int)), (9, bV (decide ((i1 : Int) < (Br.length : Int))))] [] rfl (subR rfl)
   refine Tn (Fs (wp_cond_false ((S.tm rfl).trans (congrArg Value.bool (rng_nil hd1 hi1))) (wp_exit (then_x (then_x (x_same ?_))))))
   refine Tn ?_
   exact ⟨h, S.nf [] rfl ⟨rfl, trivial⟩⟩
  | cons y1 ys1 =>
   rw [cmp_Or_int_l1.eq_2] at h
   refine Fs (Fg (lv S (rn_lss (S.tm rfl) (S.tm rfl)) rfl ?_));clear S;intro a S
   refine Ld ?_
   replace S := S.nk [] [(3, iV 0), (6, Bt), (7, iV (Br.length : Int)), (8, iV (i1 : Int)), (9, bV (decide ((i1 : Int) < (Br.length : Int))))] [] rfl (subR rfl)
   refine Tn (Fs (wp_cond_true ((S.tm rfl).trans (congrArg Value.bool (rng_cons hd1 hi1))) (wp_skip (Tn (Fs (wp_block ?_))))))
   refine Fs (Fg ?_)
   obtain ⟨b1, o1, hm1, hr1⟩ := rn_indexT (a := a) (x := .tmp 6) (y := .tmp 8) (ty := 0) sl_22 Ck (get_mid hd1 hi1) rfl (S.tm rfl) (S.tm rfl)
   refine lv S (hr1 _) rfl ?_;clear S;intro a S
   clear hr1
   refine lv S (rn_ld Tryz.isAgg3 (off := o1) (o := 0) (S.tm rfl) (hm1.at S.emb0) rfl) rfl ?_;clear S;intro a S
   refine lv S (Ra (S.tm rfl)) rfl ?_;clear S;intro a S
   refine Ld (Tn (Fs (Fg (lv S (Rm (S.tm rfl)) rfl ?_))));clear S;intro a S
   refine lv S (Rm (S.tm rfl)) rfl ?_;clear S;intro a S
   refine lv S (rn_neq (S.tm rfl) (S.tm rfl)) rfl ?_;clear S;intro a S
   refine Ld (Tn (f_cond (S.tm rfl) (fun hb1 => ?_) (fun hb1 => ?_)))
   ·replace h := iteT h hb1
    refine Fs (Fg (lv S (Rm (S.tm rfl)) rfl ?_));clear S;intro a S
    refine lv S (Ra (S.tm rfl)) rfl ?_;clear S;intro a S
    refine Ld (Tn (wp_ret (blk_r (then_r (then_r (blk_r ?_))))))
    refine then_r (then_r ?_)
    subst h
    exact f_ret S Tryz.results47 rfl rfl
   ·replace h := iteF h hb1
    refine wp_skip (blk_n (Tn (Fg (lv S (rn_add (S.tm rfl) rfl) rfl ?_))));clear S;intro a S
    refine lv S (Rm (S.tm rfl)) rfl ?_;clear S;intro a S
    refine Ld (Tn ?_)
    exact ⟨ys1, ⟨i1 + 1, ⟨_, (hd1).trans (List.append_cons _ _ _), by simp [hi1]⟩, h, S.nf [] rfl ⟨rfl, rfl, rfl, (congrArg (fun z => some (Value.int .i64 z)) (rng_next hd1 hi1 (slc_max Ck))), trivial⟩⟩, Nat.lt_succ_self _⟩
 clear S h;rintro a w2 ⟨h, S⟩;rw [hj1] at h;clear hj1 j1
 refine Tn (Fs (Fg (lv S (Rm (S.tm rfl)) rfl ?_)));clear S;intro a S
 refine lv S (Ra (S.tm rfl)) rfl ?_;clear S;intro a S
 refine Ld (Tn (wp_ret ?_))
 subst h
 exact f_ret S Tryz.results47 rfl rfl
set_option maxRecDepth 20000 in
theorem record_compare_ok (w : World) (Ap : GStep) (Ao : GStep) (r : Int) (h : record_compare Ap Ao = r) :
    Calls Tryz.prog 30 [.agg (GStep.enc Ap).toArray, .agg (GStep.enc Ao).toArray].toArray w (Ret w [] fun _ v _ => v = iV r) := by
 refine f_enter [] [] Tryz.func30 rfl Tryz.ntmps30 rfl (by simp) (by simp [fps]) (by simp [fps]) fun a S => ?_
 unfold record_compare at h
 replace S := S.nk [] [(0, .agg (GStep.enc Ap).toArray), (1, .agg (GStep.enc Ao).toArray)] [] rfl (subR rfl)
 refine Fs (Fg (l_box S (S.tm rfl) (cs := (GStep.enc Ap)) rfl rfl ?_));clear S;intro a w1 b1 hz1 hk1 S
 refine l_box S (S.tm rfl) (cs := (GStep.enc Ao)) rfl rfl ?_;clear S;intro a w2 b2 hz2 hk2 S
 refine lv S (Ra rfl) rfl ?_;clear S;intro a S
 refine Ld (Tn (Fs (d_region [] ([]) Tryz.mixed S rfl (by kernel_rfl) ?_)));clear S;intro w8 hk8 hsel S
 refine d_quiet 0 S hsel rfl rfl rfl (by kernel_rfl) (by kernel_rfl) rfl (fun _ hw => (rn_fld fa_35_0 (S.tm rfl))) ?_;clear S;intro a S
 refine d_quiet 1 S hsel rfl rfl rfl (by kernel_rfl) (by kernel_rfl) rfl (fun _ hw => (rn_ld Tryz.isAgg3 (off := 0) (o := 0) (S.tm rfl) ((S.blk_mem (i := 1) (cells := (GStep.enc Ap)) (b := b1) (T := 35) rfl (ne_nil (e' := .blk b1 (GStep.enc Ap) 35))).kept hw) rfl)) ?_;clear S;intro a S
 refine d_quiet 2 S hsel rfl rfl rfl (by kernel_rfl) (by kernel_rfl) rfl (fun _ hw => (rn_fld fa_35_0 (S.tm rfl))) ?_;clear S;intro a S
 refine d_quiet 3 S hsel rfl rfl rfl (by kernel_rfl) (by kernel_rfl) rfl (fun _ hw => (rn_ld Tryz.isAgg3 (off := 0) (o := 0) (S.tm rfl) ((S.blk_mem (i := 0) (cells := (GStep.enc Ao)) (b := b2) (T := 35) rfl (ne_nil (e' := .blk b2 (GStep.enc Ao) 35))).kept hw) rfl)) ?_;clear S;intro a S
 refine d_quiet 5 S hsel rfl rfl rfl (by kernel_rfl) (by kernel_rfl) rfl (fun _ hw => (rn_fld fa_35_2 (S.tm rfl))) ?_;clear S;intro a S
 refine d_quiet 6 S hsel rfl rfl rfl (by kernel_rfl) (by kernel_rfl) rfl (fun _ hw => (rn_ld Tryz.isAgg9 (off := 0) (o := 2) (S.tm rfl) ((S.blk_mem (i := 1) (cells := (GStep.enc Ap)) (b := b1) (T := 35) rfl (ne_nil (e' := .blk b1 (GStep.enc Ap) 35))).kept hw) rfl)) ?_;clear S;intro a S
 refine d_quiet 7 S hsel rfl rfl rfl (by kernel_rfl) (by kernel_rfl) rfl (fun _ hw => (rn_fld fa_35_2 (S.tm rfl))) ?_;clear S;intro a S
 refine d_quiet 8 S hsel rfl rfl rfl (by kernel_rfl) (by kernel_rfl) rfl (fun _ hw => (rn_ld Tryz.isAgg9 (off := 0) (o := 2) (S.tm rfl) ((S.blk_mem (i := 0) (cells := (GStep.enc Ao)) (b := b2) (T := 35) rfl (ne_nil (e' := .blk b2 (GStep.enc Ao) 35))).kept hw) rfl)) ?_;clear S;intro a S
 refine d_quiet 10 S hsel rfl rfl rfl (by kernel_rfl) (by kernel_rfl) rfl (fun _ hw => (rn_fld fa_35_1 (S.tm rfl))) ?_;clear S;intro a S
 refine d_quiet 11 S hsel rfl rfl rfl (by kernel_rfl) (by kernel_rfl) rfl (fun _ hw => (rn_ld Tryz.isAgg3 (off := 0) (o := 1) (S.tm rfl) ((S.blk_mem (i := 1) (cells := (GStep.enc Ap)) (b := b1) (T := 35) rfl (ne_nil (e' := .blk b1 (GStep.enc Ap) 35))).kept hw) rfl)) ?_;clear S;intro a S
 refine d_quiet 12 S hsel rfl rfl rfl (by kernel_rfl) (by kernel_rfl) rfl (fun _ hw => (rn_fld fa_35_1 (S.tm rfl))) ?_;clear S;intro a S
 refine d_quiet 13 S hsel rfl rfl rfl (by kernel_rfl) (by kernel_rfl) rfl (fun _ hw => (rn_ld Tryz.isAgg3 (off := 0) (o := 1) (S.tm rfl) ((S.blk_mem (i := 0) (cells := (GStep.enc Ao)) (b := b2) (T := 35) rfl (ne_nil (e' := .blk b2 (GStep.enc Ao) 35))).kept hw) rfl)) ?_;clear S;intro a S
 refine d_loud1 4 (by kernel_rfl) rfl (l_enter S (fun _ => run_call (vs := [iV Ap.At, iV Ao.At]) ⟨(S.tm rfl), (S.tm rfl), trivial⟩ Tryz.call48) (cmp_Compare_int_ok _ Ap.At Ao.At _ rfl) rfl ?_);clear S;intro v5 a w9 hv5 hk9 hn5 S
 subst hv5
 refine Ld (d_next hk9 (d_loud1 9 (by kernel_rfl) rfl (l_enter S (fun _ => run_call (vs := [sV Ap.Id, sV Ao.Id]) ⟨(S.tm rfl), (S.tm rfl), trivial⟩ Tryz.call49) (strings_Compare_ok _ Ap.Id Ao.Id _ rfl) rfl ?_)));clear S;intro v6 a w10 hv6 hk10 hn6 S
 subst hv6
 refine Ld (d_next hk10 (d_loud1 14 (by kernel_rfl) rfl (l_enter S (fun _ => run_call (vs := [iV Ap.Kind, iV Ao.Kind]) ⟨(S.tm rfl), (S.tm rfl), trivial⟩ Tryz.call48) (cmp_Compare_int_ok _ Ap.Kind Ao.Kind _ rfl) rfl ?_)));clear S;intro v7 a w11 hv7 hk11 hn7 S
 subst hv7
 refine Ld (d_next hk11 (d_loud1 15 (by kernel_rfl) rfl (l_buildSlice S Tryz.underlying22 Tryz.sizeOf3 Tryz.zeroValue3 rfl rfl (pv := [(0, iV (cmp_Compare_int Ap.At Ao.At)), (1, iV (strings_Compare Ap.Id Ao.Id)), (2, iV (cmp_Compare_int Ap.Kind Ao.Kind))]) ⟨rfl, (S.tm rfl), rfl, (S.tm rfl), rfl, (S.tm rfl), trivial⟩ (cs := [iV (cmp_Compare_int Ap.At Ao.At), iV (strings_Compare Ap.Id Ao.Id), iV (cmp_Compare_int Ap.Kind Ao.Kind)]) (by kernel_rfl) rfl ?_)));clear S;intro a w12 b4 hz4 hk12 S
 refine Ld (d_next hk12 (d_loud1 16 (by kernel_rfl) rfl (l_enter S (fun _ => run_call (vs := [.slice (some ⟨b4, 0, none⟩) 3 3]) ⟨(S.tm rfl), trivial⟩ Tryz.call47) (cmp_Or_int_ok _ (.slice (some ⟨b4, 0, none⟩) 3 3) [(cmp_Compare_int Ap.At Ao.At), (strings_Compare Ap.Id Ao.Id), (cmp_Compare_int Ap.Kind Ao.Kind)] (lit_slcT enc_int S (i := 0) rfl rfl rfl rfl ((ne_nil (e' := .blk b4 [iV (cmp_Compare_int Ap.At Ao.At), iV (strings_Compare Ap.Id Ao.Id), iV (cmp_Compare_int Ap.Kind Ao.Kind)] 3)) _ rfl)) _ rfl) rfl ?_)));clear S;intro v8 a w13 hv8 hk13 hn8 S
 subst hv8
 refine Ld (d_next hk13 (d_rest [17] hsel (by kernel_rfl) rfl ?_))
 clear hsel
 refine s_lv S rfl (Ra (S.tm rfl)) rfl ?_;clear S;intro a S
 refine s_done ?_
 replace S := S.nk [] [(4, iV (cmp_Or_int [(cmp_Compare_int Ap.At Ao.At), (strings_Compare Ap.Id Ao.Id), (cmp_Compare_int Ap.Kind Ao.Kind)]))] [false, false, false] rfl ⟨rfl, trivial⟩
 refine Tn (wp_ret ?_)
 subst h
 exact f_ret S Tryz.results30 rfl rfl
set_option maxRecDepth 20000 in
theorem record_CheckSteps_ok (w : World) (V : Value) (Z : List GStep) (Ae : Slc (view w []) 8 V (Z.map GStep.enc)) (r : Int) (h : record_CheckSteps Z = some r) :
    Calls Tryz.prog 22 [V].toArray w (Ret w [] fun _ v _ => v = iV r) := by
 refine f_enter [] [] Tryz.func22 rfl Tryz.ntmps22 rfl (by simp) (by simp [fps]) (by simp [fps]) fun a S => ?_
 unfold record_CheckSteps at h
 replace S := S.nk [] [(0, V)] [] rfl ⟨rfl, trivial⟩
 refine Fs (Fg (lv S (Ra rfl) rfl ?_));clear S;intro a S
 refine Ld (Tn (Fs (Fs (Fg (lv S (Rm (S.tm rfl)) rfl ?_)))));clear S;intro a S
 refine lv S (rn_lenT sl_28 (S.tm rfl) (slc_len Ae)) rfl ?_;clear S;intro a S
 refine lv S (rn_gtr (S.tm rfl) rfl) rfl ?_;clear S;intro a S
 refine Ld (Tn (f_cond (S.tm rfl) (fun hb1 => ?_) (fun hb1 => ?_)))
 ·replace h := iteT h hb1
  refine Fs (Fg (lv S (Ra rfl) rfl ?_));clear S;intro a S
  refine Ld (Tn (wp_ret (then_r ?_)))
  obtain rfl := Option.some.inj h
  exact f_ret S Tryz.results22 rfl rfl
 ·replace h := iteF h hb1
  refine wp_skip (Tn (Fs (Fs (Fg (lv S (Rm (S.tm rfl)) rfl ?_)))));clear S;intro a S
  refine lv S (rn_lenT sl_28 (S.tm rfl) (slc_len Ae)) rfl ?_;clear S;intro a S
  refine lv S (Rm rfl) rfl ?_;clear S;intro a S
  refine Ld (Tn ?_)
  replace S := S.nk [] [(0, V), (9, V), (10, iV (Z.length : Int)), (11, iV 0)] [] rfl (subR rfl)
  obtain ⟨j1, hj1, h⟩ := joinE h
  refine f_join (fun a w' => j1 = some r ∧ Sx w [] nov [] [] 34 a w') ?_ ?_
  ·refine wp_block (f_loop (fun (ys1 : List GStep) a w' => ∃ i1 : Nat, (∃ dn, Z = dn ++ ys1 ∧ dn.length = i1) ∧ record_CheckSteps_l1 Z j1 ys1 i1 = some r ∧ Sx w [] nov [] [(0, V), (9, V), (10, iV (Z.length : Int)), (11, iV (i1 : Int))] 34 a w') List.length Z ⟨0, ⟨[], rfl, rfl⟩, h, S.nf [] rfl (subR rfl)⟩ ?_)
   clear S h;rintro ys1 a w1 ⟨i1, ⟨dn, hd1, hi1⟩, h, S⟩
   cases ys1 with
   | nil =>
    rw [record_CheckSteps_l1.eq_1] at h
    refine Fs (Fg (lv S (rn_lss (S.tm rfl) (S.tm rfl)) rfl ?_));clear S;intro a S
    refine Ld ?_
    replace S := S.nk [] [(0, V), (9, V), (10, iV (Z.length : Int)), (11, iV (i1 : Int)), (12, bV (decide ((i1 : Int) < (Z.length : Int))))] [] rfl (subR rfl)
    refine Tn (Fs (wp_cond_false ((S.tm rfl).trans (congrArg Value.bool (rng_nil hd1 hi1))) (wp_exit (then_x (then_x (x_same ?_))))))
    refine Tn ?_
    exact ⟨h, S.nf [] rfl trivial⟩
   | cons y1 ys1 =>
    rw [record_CheckSteps_l1.eq_2] at h
    refine Fs (Fg (lv S (rn_lss (S.tm rfl) (S.tm rfl)) rfl ?_));clear S;intro a S
    refine Ld ?_
    replace S := S.nk [] [(0, V), (9, V), (10, iV (Z.length : Int)), (11, iV (i1 : Int)), (12, bV (decide ((i1 : Int) < (Z.length : Int))))] [] rfl (subR rfl)
    refine Tn (Fs (wp_cond_true ((S.tm rfl).trans (congrArg Value.bool (rng_cons hd1 hi1))) (wp_skip (Tn (Fs (wp_block ?_))))))
    refine Fs (Fg (lv S (Rm (S.tm rfl)) rfl ?_));clear S;intro a S
    obtain ⟨b1, o1, hm1, hr1⟩ := rn_indexT (a := a) (x := .tmp 9) (y := .tmp 11) (ty := 0) sl_28 Ae (get_mid hd1 hi1) rfl (S.tm rfl) (S.tm rfl)
    refine lv S (hr1 _) rfl ?_;clear S;intro a S
    clear hr1
    refine lv S (rn_ldA Tryz.isAgg35 Tryz.sizeOf35 (off := o1) (o := 0) (part := (GStep.enc y1)) rfl rfl (S.tm rfl) (hm1.at S.emb0)) rfl ?_;clear S;intro a S
    refine l_alloc S Tryz.zeroValue35 (cs := [iV 0, iV 0, sV k_empty, sV k_empty, sV k_empty, sV k_empty, iV 0, iV 0]) rfl rfl ?_;clear S;intro a w3 b2 hz1 hk1 S
    refine lv S (Ra (S.tm rfl)) rfl ?_;clear S;intro a S
    refine l_store S (S.tm rfl) (S.tm rfl) (i := 0) (off := 0) rfl Tryz.sizeOf35 (vs := (GStep.enc y1)) rfl rfl rfl rfl ?_;clear S;intro w4 hk2 S
    refine Ld (Tn (Fs (Fs (Fg (lv S (rn_ldA Tryz.isAgg35 Tryz.sizeOf35 (off := 0) (o := 0) (part := (GStep.enc y1)) rfl rfl (S.tm rfl) (S.cellsAt (i := 0) rfl)) rfl ?_)))));clear S;intro a S
    obtain ⟨r1, hr2, h⟩ := bindE h
    refine l_enter S (fun _ => run_call (vs := [.agg (GStep.enc y1).toArray]) ⟨(S.tm rfl), trivial⟩ Tryz.call44) (record_checkStep_ok _ y1 _ hr2) rfl ?_;clear S;intro v1 a w5 hv1 hk3 hn1 S
    subst hv1
    refine lv S (Ra (S.tm rfl)) rfl ?_;clear S;intro a S
    refine Ld (Tn (Fs (Fg (lv S (Rm (S.tm rfl)) rfl ?_))));clear S;intro a S
    refine lv S (rn_neq (S.tm rfl) rfl) rfl ?_;clear S;intro a S
    refine Ld ?_
    replace S := S.nk [.blk b2 (GStep.enc y1) 35] [(0, V), (3, iV (i1 : Int)), (4, .pointer (some ⟨b2, 0, none⟩)), (5, iV r1), (9, V), (10, iV (Z.length : Int)), (11, iV (i1 : Int)), (19, bV (!decide (r1 = 0)))] [true] rfl (subR rfl)
    refine Tn (f_cond (S.tm rfl) (fun hb2 => ?_) (fun hb2 => ?_))
    ·replace h := iteT h hb2
     refine Fs (Fg (lv S (Rm (S.tm rfl)) rfl ?_));clear S;intro a S
     refine lv S (Ra (S.tm rfl)) rfl ?_;clear S;intro a S
     refine Ld (Tn (wp_ret (then_r (blk_r (then_r (then_r ?_))))))
     refine blk_r (then_r (then_r ?_))
     obtain rfl := Option.some.inj h
     exact f_ret S Tryz.results22 rfl rfl
    ·replace h := iteF h hb2
     refine wp_skip (Tn (Fs ?_))
     obtain ⟨j2, hj2, h⟩ := joinE h
     refine f_join (fun a w' => ∃ x1 : Bool, j2 x1 = some r ∧ Sx w [] nov [] [(0, V), (9, V), (10, iV (Z.length : Int)), (11, iV (i1 : Int)), (32, bV x1)] 34 a w') ?_ ?_
     ·rcases Bool.eq_false_or_eq_true (decide (0 < (i1 : Int))) with hb3 | hb3
      ·replace h := iteT h hb3
       obtain ⟨hc1, h⟩ := chkE h
       refine d_region [] ([]) Tryz.mixed S rfl (by kernel_rfl) ?_;clear S;intro w8 hk5 hsel S
       refine d_quiet 0 S hsel rfl rfl rfl (by kernel_rfl) (by kernel_rfl) rfl (fun _ hw => (Rm (S.tm rfl))) ?_;clear S;intro a S
       refine d_quiet 1 S hsel rfl rfl rfl (by kernel_rfl) (by kernel_rfl) rfl (fun _ hw => (rn_gtr (S.tm rfl) rfl)) ?_;clear S;intro a S
       refine d_quiet 2 S hsel rfl rfl rfl (by kernel_rfl) (by kernel_rfl) rfl (fun _ hw => (Rm (S.tm rfl))) ?_;clear S;intro a S
       refine d_quiet_g 3 S hsel rfl rfl rfl rfl hb3 rfl rfl (by kernel_rfl) (by kernel_rfl) rfl (fun _ hw => (Rm (S.tm rfl))) ?_;clear S;intro a S
       refine d_quiet_g 4 S hsel rfl rfl rfl rfl hb3 rfl rfl (by kernel_rfl) (by kernel_rfl) rfl (fun _ hw => (Rm (S.tm rfl))) ?_;clear S;intro a S
       refine d_quiet_g 5 S hsel rfl rfl rfl rfl hb3 rfl rfl (by kernel_rfl) (by kernel_rfl) rfl (fun _ hw => (rn_sub (S.tm rfl) rfl)) ?_;clear S;intro a S
       obtain ⟨b4, o3, hm3, hr4⟩ := rn_indexT (a := a) (x := .tmp 24) (y := .tmp 26) (ty := 0) sl_28 (Ae.mono (S.le_arg nil_sub)) (inB_get hc1).1 (inB_get hc1).2 (S.tm rfl) (S.tm rfl)
       refine d_quiet_g 6 S hsel rfl rfl rfl rfl hb3 rfl rfl (by kernel_rfl) (by kernel_rfl) rfl (fun _ hw => hr4 _) ?_;clear S;intro a S
       clear hr4
       refine d_quiet_g 7 S hsel rfl rfl rfl rfl hb3 rfl rfl (by kernel_rfl) (by kernel_rfl) rfl (fun _ hw => (rn_ldA Tryz.isAgg35 Tryz.sizeOf35 (off := o3) (o := 0) (part := (GStep.enc (nth Z (W ((i1 : Int) - 1))))) rfl rfl (S.tm rfl) (hm3.kept hw))) ?_;clear S;intro a S
       refine d_quiet_g 8 S hsel rfl rfl rfl rfl hb3 rfl rfl (by kernel_rfl) (by kernel_rfl) rfl (fun _ hw => (rn_ldA Tryz.isAgg35 Tryz.sizeOf35 (off := 0) (o := 0) (part := (GStep.enc y1)) rfl rfl (S.tm rfl) ((S.blk_mem (i := 0) (cells := (GStep.enc y1)) (b := b2) (T := 35) rfl (ne_nil (e' := .blk b2 (GStep.enc y1) 35))).kept hw))) ?_;clear S;intro a S
       refine d_loud1 9 (by kernel_rfl) rfl (l_want S rfl rfl rfl hb3 (l_enter S (fun _ => run_call (vs := [.agg (GStep.enc (nth Z (W ((i1 : Int) - 1)))).toArray, .agg (GStep.enc y1).toArray]) ⟨(S.tm rfl), (S.tm rfl), trivial⟩ Tryz.call30) (record_compare_ok _ (nth Z (W ((i1 : Int) - 1))) y1 _ rfl) rfl ?_));clear S;intro v3 a w9 hv3 hk6 hn3 S
       subst hv3
       refine Ld (d_next hk6 (d_rest [10, 11] hsel (by kernel_rfl) rfl ?_))
       clear hsel
       refine s_want S rfl rfl rfl rfl hb3 (s_lv0 S (rn_geq (S.tm rfl) rfl) rfl ?_);clear S;intro a S
       refine s_lv S rfl (rn_pick_b hb3 (S.tm rfl) (S.tm rfl)) rfl ?_;clear S;intro a S
       refine s_done ?_
       replace S := S.nk [] [(0, V), (9, V), (10, iV (Z.length : Int)), (11, iV (i1 : Int)), (24, V), (25, iV (i1 : Int)), (26, iV (W ((i1 : Int) - 1))), (27, .pointer (some ⟨b4, o3, none⟩)), (28, .agg (GStep.enc (nth Z (W ((i1 : Int) - 1)))).toArray), (29, .agg (GStep.enc y1).toArray), (30, iV (record_compare (nth Z (W ((i1 : Int) - 1))) y1)), (31, bV (decide (0 ≤ (record_compare (nth Z (W ((i1 : Int) - 1))) y1)))), (32, bV (decide (0 ≤ (record_compare (nth Z (W ((i1 : Int) - 1))) y1))))] [false] rfl (subR rfl)
       refine Tn ?_
       exact ⟨decide (0 ≤ (record_compare (nth Z (W ((i1 : Int) - 1))) y1)), h, S.nf [] rfl (subR rfl)⟩
      ·replace h := iteF h hb3
       refine d_region [] ([]) Tryz.mixed S rfl (by kernel_rfl) ?_;clear S;intro w10 hk7 hsel S
       refine d_rest [0, 1, 2, 3, 4, 5, 6, 7, 8, 9, 10, 11] hsel (by kernel_rfl) rfl ?_
       clear hsel
       refine s_lv S rfl (Rm (S.tm rfl)) rfl ?_;clear S;intro a S
       refine s_lv S rfl (rn_gtr (S.tm rfl) rfl) rfl ?_;clear S;intro a S
       refine s_lv S rfl (Rm (S.tm rfl)) rfl ?_;clear S;intro a S
       iterate 8 (refine s_skip S rfl rfl rfl rfl (neq_f hb3) rfl ?_ rfl;clear S;intro a S)
       refine s_lv S rfl (rn_pick_c hb3 (S.tm rfl) rfl) rfl ?_;clear S;intro a S
       refine s_done ?_
       replace S := S.nk [] [(0, V), (9, V), (10, iV (Z.length : Int)), (11, iV (i1 : Int)), (32, bV false)] [false] rfl (subR rfl)
       refine Tn ?_
       exact ⟨false, h, S.nf [] rfl (subR rfl)⟩
     clear S h;rintro a w6 ⟨x1, h, S⟩;rw [hj2] at h;clear hj2 j2
     refine Tn (f_cond (S.tm rfl) (fun hb4 => ?_) (fun hb4 => ?_))
     ·replace h := iteT h hb4
      refine Fs (Fg (lv S (Ra rfl) rfl ?_));clear S;intro a S
      refine Ld (Tn (wp_ret (blk_r (then_r (then_r (blk_r ?_))))))
      refine then_r (then_r ?_)
      obtain rfl := Option.some.inj h
      exact f_ret S Tryz.results22 rfl rfl
     ·replace h := iteF h hb4
      refine wp_skip (blk_n (Tn (Fg (lv S (rn_add (S.tm rfl) rfl) rfl ?_))));clear S;intro a S
      refine lv S (Rm (S.tm rfl)) rfl ?_;clear S;intro a S
      refine Ld (Tn ?_)
      exact ⟨ys1, ⟨i1 + 1, ⟨_, (hd1).trans (List.append_cons _ _ _), by simp [hi1]⟩, h, S.nf [] rfl ⟨rfl, rfl, rfl, (congrArg (fun z => some (Value.int .i64 z)) (rng_next hd1 hi1 (slc_max Ae))), trivial⟩⟩, Nat.lt_succ_self _⟩
  clear S h;rintro a w2 ⟨h, S⟩;rw [hj1] at h;clear hj1 j1
  refine Tn (Fs (Fg (lv S (Ra rfl) rfl ?_)));clear S;intro a S
  refine Ld (Tn (wp_ret ?_))
  obtain rfl := Option.some.inj h
  exact f_ret S Tryz.results22 rfl rfl
end Go.Proofs.YtbmkfjgekokfcaaGreatDoor
