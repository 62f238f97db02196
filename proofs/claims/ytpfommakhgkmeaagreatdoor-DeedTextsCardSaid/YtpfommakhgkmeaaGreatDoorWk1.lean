/- Each Go function computes its plain twin, by program. -/
import Derived.Test.YtpfommakhgkmeaaGreatDoorTab
import Derived.Test.YtpfommakhgkmeaaGreatDoorLay
import Derived.Test.YtpfommakhgkmeaaGreatDoorText
import Derived.Test.YtpfommakhgkmeaaGreatDoorSeq
namespace Go.Proofs.YtpfommakhgkmeaaGreatDoor
open Go
theorem tumbmake_Below_ok (w : World) (V : Int) (Be : Int) (r : Int) (h : tumbmake_Below V Be = some r) :
    Calls Tryz.prog 49 [iV V, iV Be].toArray w (Ret w [] fun _ v _ => v = iV r) := by
 refine f_enter [] [] Tryz.func49 rfl Tryz.ntmps49 rfl (by simp) (by simp [fps]) (by simp [fps]) fun a S => ?_
 unfold tumbmake_Below at h
 replace S := S.nk [] [(0, iV V), (1, iV Be)] [] rfl (subR rfl)
 refine Fs (Fg (lv S (Ra rfl) rfl ?_));clear S;intro a S
 refine Ld (Tn (Fs (Fs (Fg (lv S (Rm (S.tm rfl)) rfl ?_)))));clear S;intro a S
 refine lv S (rn_lss (S.tm rfl) rfl) rfl ?_;clear S;intro a S
 refine Ld (Tn (f_cond (S.tm rfl) (fun hb1 => ?_) (fun hb1 => ?_)))
 ·replace h := iteT h hb1
  refine Fs (Fg (lv S (Ra rfl) rfl ?_));clear S;intro a S
  refine Ld (Tn (wp_ret (then_r ?_)))
  obtain rfl := Option.some.inj h
  exact f_ret S Tryz.results49 rfl rfl
 ·replace h := iteF h hb1
  refine wp_skip (Tn (Fs (Fg (lv S (Rm (S.tm rfl)) rfl ?_))));clear S;intro a S
  refine lv S (Rm (S.tm rfl)) rfl ?_;clear S;intro a S
  obtain ⟨hc1, h⟩ := chkE h
  refine lv S (rn_rem (S.tm rfl) (S.tm rfl) (ne0_of hc1)) rfl ?_;clear S;intro a S
  refine lv S (Ra (S.tm rfl)) rfl ?_;clear S;intro a S
  refine Ld (Tn (Fs (Fs (Fg (lv S (Rm (S.tm rfl)) rfl ?_)))));clear S;intro a S
  refine lv S (rn_lss (S.tm rfl) rfl) rfl ?_;clear S;intro a S
  refine Ld (Tn ?_)
  obtain ⟨j1, hj1, h⟩ := joinE h
  refine f_join (fun a w' => ∃ x1 : Int, j1 x1 = some r ∧ Sx w [] nov [] [(0, iV x1)] 16 a w') ?_ ?_
  ·refine f_cond (S.tm rfl) (fun hb2 => ?_) (fun hb2 => ?_)
   ·replace h := iteT h hb2
    refine Fg (lv S (Rm (S.tm rfl)) rfl ?_);clear S;intro a S
    refine lv S (Rm (S.tm rfl)) rfl ?_;clear S;intro a S
    refine lv S (rn_add (S.tm rfl) (S.tm rfl)) rfl ?_;clear S;intro a S
    refine lv S (Ra (S.tm rfl)) rfl ?_;clear S;intro a S
    refine Ld (Tn ?_)
    exact ⟨W ((Int.tmod V Be) + Be), h, S.nf [] rfl ⟨rfl, trivial⟩⟩
   ·replace h := iteF h hb2
    refine wp_skip (Tn ?_)
    exact ⟨Int.tmod V Be, h, S.nf [] rfl ⟨rfl, trivial⟩⟩
  clear S h;rintro a w1 ⟨x1, h, S⟩;rw [hj1] at h;clear hj1 j1
  refine Tn (Fs (Fg (lv S (Rm (S.tm rfl)) rfl ?_)));clear S;intro a S
  refine lv S (Ra (S.tm rfl)) rfl ?_;clear S;intro a S
  refine Ld (Tn (wp_ret ?_))
  obtain rfl := Option.some.inj h
  exact f_ret S Tryz.results49 rfl rfl
set_option maxRecDepth 20000 in
theorem Stream_Next_ok (w : World) (O : Nat) (U : Value) (Ah : List Int) (Ai : Slc (view w [O]) 1 U (Ah.map eInt)) (Af : Int) (Aw : (LEnt.blk O [U, iV Af] 25).holds w) (Be : Int) (r : Int × Int) (h : Stream_Next Ah Af Be = some r) :
    Calls Tryz.prog 17 [.pointer (some ⟨O, 0, none⟩), iV Be].toArray w (Ret w [O] fun _ v w' => (LEnt.blk O [U, iV r.2] 25).holds w' ∧ v = iV r.1) := by
 refine f_enter [O] [.blk O [U, iV Af] 25] Tryz.func17 rfl Tryz.ntmps17 rfl (fun e he => by simp only [List.mem_singleton] at he;subst he;exact Aw) (by simp [fps, LEnt.fp]) (by simp [fps, LEnt.fp]) fun a S => ?_
 unfold Stream_Next at h
 replace S := S.nk [.blk O [U, iV Af] 25] [(0, .pointer (some ⟨O, 0, none⟩)), (1, iV Be)] [true] rfl (subR rfl)
 refine Fs (Fg (lv S (Ra rfl) rfl ?_));clear S;intro a S
 refine Ld (Tn (Fs (Fg (lv S (Rm (S.tm rfl)) rfl ?_))));clear S;intro a S
 refine lv S (rn_nilCheck (S.tm rfl)) rfl ?_;clear S;intro a S
 refine lv S (rn_fld fa_25_1 (S.tm rfl)) rfl ?_;clear S;intro a S
 refine lv S (rn_load Tryz.isAgg3 (S.tm rfl) (S.cell (i := 0) rfl rfl)) rfl ?_;clear S;intro a S
 refine lv S (rn_add (S.tm rfl) rfl) rfl ?_;clear S;intro a S
 refine lv S (rn_nilCheck (S.tm rfl)) rfl ?_;clear S;intro a S
 refine lv S (rn_fld fa_25_1 (S.tm rfl)) rfl ?_;clear S;intro a S
 refine l_store S (S.tm rfl) (S.tm rfl) (i := 0) (off := 1) rfl Tryz.sizeOf3 (vs := [iV (W (Af + 1))]) rfl rfl rfl rfl ?_;clear S;intro w1 hk1 S
 refine Ld (Tn (Fs (Fs (Fg (lv S (Rm (S.tm rfl)) rfl ?_)))));clear S;intro a S
 refine lv S (rn_nilCheck (S.tm rfl)) rfl ?_;clear S;intro a S
 refine lv S (rn_fld fa_25_0 (S.tm rfl)) rfl ?_;clear S;intro a S
 refine lv S (rn_load Tryz.isAgg22 (S.tm rfl) (S.cell (i := 0) rfl rfl)) rfl ?_;clear S;intro a S
 refine lv S (rn_lenT sl_22 (S.tm rfl) (slc_len Ai)) rfl ?_;clear S;intro a S
 refine lv S (rn_eql (S.tm rfl) rfl) rfl ?_;clear S;intro a S
 refine Ld ?_
 replace S := S.nk [.blk O [U, iV (W (Af + 1))] 25] [(0, .pointer (some ⟨O, 0, none⟩)), (1, iV Be), (19, bV (decide ((Ah.length : Int) = 0)))] [true] rfl (subR rfl)
 refine Tn (f_cond (S.tm rfl) (fun hb1 => ?_) (fun hb1 => ?_))
 ·replace h := iteT h hb1
  refine Fs (Fg (lv S (Rm (S.tm rfl)) rfl ?_));clear S;intro a S
  refine lv S (rn_nilCheck (S.tm rfl)) rfl ?_;clear S;intro a S
  refine lv S (rn_fld fa_25_1 (S.tm rfl)) rfl ?_;clear S;intro a S
  refine lv S (rn_load Tryz.isAgg3 (S.tm rfl) (S.cell (i := 0) rfl rfl)) rfl ?_;clear S;intro a S
  refine lv S (rn_mul (S.tm rfl) rfl) rfl ?_;clear S;intro a S
  refine lv S (Rm (S.tm rfl)) rfl ?_;clear S;intro a S
  obtain ⟨r1, hr1, h⟩ := bindE h
  refine l_enter S (fun _ => run_call (vs := [iV (W ((W (Af + 1)) * 7919)), iV Be]) ⟨(S.tm rfl), (S.tm rfl), trivial⟩ Tryz.call49) (tumbmake_Below_ok _ (W ((W (Af + 1)) * 7919)) Be _ hr1) rfl ?_;clear S;intro v1 a w2 hv1 hk2 hn1 S
  subst hv1
  refine lv S (Ra (S.tm rfl)) rfl ?_;clear S;intro a S
  refine Ld (Tn (wp_ret (then_r ?_)))
  obtain rfl := Option.some.inj h
  exact f_ret S Tryz.results17 rfl ⟨(S.holds _ (List.mem_of_getElem? (i := 0) rfl)), rfl⟩
 ·replace h := iteF h hb1
  refine wp_skip (Tn (Fs (d_region [] ([]) Tryz.mixed S rfl (by kernel_rfl) ?_)));clear S;intro w3 hk3 hsel S
  refine d_rest [0, 1, 2, 3, 4, 5, 6, 7, 8, 9, 10, 11] hsel (by kernel_rfl) rfl ?_
  clear hsel
  refine s_lv S rfl (Rm (S.tm rfl)) rfl ?_;clear S;intro a S
  refine s_lv S rfl (rn_nilCheck (S.tm rfl)) rfl ?_;clear S;intro a S
  refine s_lv S rfl (rn_fld fa_25_1 (S.tm rfl)) rfl ?_;clear S;intro a S
  refine s_lv S rfl (rn_load Tryz.isAgg3 (S.tm rfl) (S.cell (i := 0) rfl rfl)) rfl ?_;clear S;intro a S
  refine s_lv S rfl (rn_sub (S.tm rfl) rfl) rfl ?_;clear S;intro a S
  refine s_lv S rfl (Rm (S.tm rfl)) rfl ?_;clear S;intro a S
  refine s_lv S rfl (rn_nilCheck (S.tm rfl)) rfl ?_;clear S;intro a S
  refine s_lv S rfl (rn_fld fa_25_0 (S.tm rfl)) rfl ?_;clear S;intro a S
  refine s_lv S rfl (rn_load Tryz.isAgg22 (S.tm rfl) (S.cell (i := 0) rfl rfl)) rfl ?_;clear S;intro a S
  refine s_lv S rfl (rn_lenT sl_22 (S.tm rfl) (slc_len Ai)) rfl ?_;clear S;intro a S
  obtain ⟨hc1, h⟩ := chkE h
  refine s_lv S rfl (rn_rem (S.tm rfl) (S.tm rfl) (ne0_of hc1)) rfl ?_;clear S;intro a S
  refine s_lv S rfl (Ra (S.tm rfl)) rfl ?_;clear S;intro a S
  refine s_done ?_
  replace S := S.nk [.blk O [U, iV (W (Af + 1))] 25] [(0, .pointer (some ⟨O, 0, none⟩)), (1, iV Be), (5, iV (Int.tmod (W ((W (Af + 1)) - 1)) (Ah.length : Int)))] [true] rfl (subR rfl)
  refine Tn (Fs (d_region [] ([]) Tryz.mixed S rfl (by kernel_rfl) ?_));clear S;intro w4 hk4 hsel S
  refine d_rest [0, 1, 2, 3, 4, 5, 6, 7, 8, 9, 10, 11] hsel (by kernel_rfl) rfl ?_
  clear hsel
  refine s_lv S rfl (Rm (S.tm rfl)) rfl ?_;clear S;intro a S
  refine s_lv S rfl (rn_nilCheck (S.tm rfl)) rfl ?_;clear S;intro a S
  refine s_lv S rfl (rn_fld fa_25_1 (S.tm rfl)) rfl ?_;clear S;intro a S
  refine s_lv S rfl (rn_load Tryz.isAgg3 (S.tm rfl) (S.cell (i := 0) rfl rfl)) rfl ?_;clear S;intro a S
  refine s_lv S rfl (rn_sub (S.tm rfl) rfl) rfl ?_;clear S;intro a S
  refine s_lv S rfl (Rm (S.tm rfl)) rfl ?_;clear S;intro a S
  refine s_lv S rfl (rn_nilCheck (S.tm rfl)) rfl ?_;clear S;intro a S
  refine s_lv S rfl (rn_fld fa_25_0 (S.tm rfl)) rfl ?_;clear S;intro a S
  refine s_lv S rfl (rn_load Tryz.isAgg22 (S.tm rfl) (S.cell (i := 0) rfl rfl)) rfl ?_;clear S;intro a S
  refine s_lv S rfl (rn_lenT sl_22 (S.tm rfl) (slc_len Ai)) rfl ?_;clear S;intro a S
  obtain ⟨hc2, h⟩ := chkE h
  refine s_lv S rfl (rn_quo (S.tm rfl) (S.tm rfl) (ne0_of hc2)) rfl ?_;clear S;intro a S
  refine s_lv S rfl (Ra (S.tm rfl)) rfl ?_;clear S;intro a S
  refine s_done ?_
  replace S := S.nk [.blk O [U, iV (W (Af + 1))] 25] [(0, .pointer (some ⟨O, 0, none⟩)), (1, iV Be), (5, iV (Int.tmod (W ((W (Af + 1)) - 1)) (Ah.length : Int))), (6, iV (W (Int.tdiv (W ((W (Af + 1)) - 1)) (Ah.length : Int))))] [true] rfl (subR rfl)
  refine Tn (Fs (Fg (lv S (Rm (S.tm rfl)) rfl ?_)));clear S;intro a S
  refine lv S (rn_nilCheck (S.tm rfl)) rfl ?_;clear S;intro a S
  refine lv S (rn_fld fa_25_0 (S.tm rfl)) rfl ?_;clear S;intro a S
  refine lv S (rn_load Tryz.isAgg22 (S.tm rfl) (S.cell (i := 0) rfl rfl)) rfl ?_;clear S;intro a S
  refine lv S (Rm (S.tm rfl)) rfl ?_;clear S;intro a S
  obtain ⟨hc3, h⟩ := chkE h
  obtain ⟨b1, o1, hm1, hr2⟩ := rn_indexT (a := a) (x := .tmp 52) (y := .tmp 53) (ty := 0) sl_22 Ai (inB_get hc3).1 (inB_get hc3).2 (S.tm rfl) (S.tm rfl)
  refine lv S (hr2 _) rfl ?_;clear S;intro a S
  clear hr2
  refine lv S (rn_ld Tryz.isAgg3 (off := o1) (o := 0) (S.tm rfl) (hm1.at S.emb0) rfl) rfl ?_;clear S;intro a S
  obtain ⟨r2, hr3, h⟩ := bindE h
  refine l_enter S (fun _ => run_call (vs := [iV (nth Ah (Int.tmod (W ((W (Af + 1)) - 1)) (Ah.length : Int))), iV 1073741824]) ⟨(S.tm rfl), rfl, trivial⟩ Tryz.call49) (tumbmake_Below_ok _ (nth Ah (Int.tmod (W ((W (Af + 1)) - 1)) (Ah.length : Int))) 1073741824 _ hr3) rfl ?_;clear S;intro v2 a w5 hv2 hk5 hn2 S
  subst hv2
  refine lv S (Rm (S.tm rfl)) rfl ?_;clear S;intro a S
  refine lv S (Rm (S.tm rfl)) rfl ?_;clear S;intro a S
  refine lv S (rn_add rfl (S.tm rfl)) rfl ?_;clear S;intro a S
  refine lv S (rn_mul (S.tm rfl) (S.tm rfl)) rfl ?_;clear S;intro a S
  refine lv S (rn_add (S.tm rfl) (S.tm rfl)) rfl ?_;clear S;intro a S
  refine lv S (Rm (S.tm rfl)) rfl ?_;clear S;intro a S
  obtain ⟨r3, hr4, h⟩ := bindE h
  refine l_enter S (fun _ => run_call (vs := [iV (W (r2 + (W ((W (Int.tdiv (W ((W (Af + 1)) - 1)) (Ah.length : Int))) * (W (7919 + (Int.tmod (W ((W (Af + 1)) - 1)) (Ah.length : Int)))))))), iV Be]) ⟨(S.tm rfl), (S.tm rfl), trivial⟩ Tryz.call49) (tumbmake_Below_ok _ (W (r2 + (W ((W (Int.tdiv (W ((W (Af + 1)) - 1)) (Ah.length : Int))) * (W (7919 + (Int.tmod (W ((W (Af + 1)) - 1)) (Ah.length : Int)))))))) Be _ hr4) rfl ?_;clear S;intro v3 a w6 hv3 hk6 hn3 S
  subst hv3
  refine lv S (Ra (S.tm rfl)) rfl ?_;clear S;intro a S
  refine Ld ?_
  replace S := S.nk [.blk O [U, iV (W (Af + 1))] 25] [(4, iV r3)] [true] rfl ⟨rfl, trivial⟩
  refine Tn (wp_ret ?_)
  obtain rfl := Option.some.inj h
  exact f_ret S Tryz.results17 rfl ⟨(S.holds _ (List.mem_of_getElem? (i := 0) rfl)), rfl⟩
theorem Stream_Range_ok (w : World) (O : Nat) (U : Value) (Ah : List Int) (Ai : Slc (view w [O]) 1 U (Ah.map eInt)) (Af : Int) (Aw : (LEnt.blk O [U, iV Af] 25).holds w) (Bq : Int) (Bl : Int) (r : Int × Int) (h : Stream_Range Ah Af Bq Bl = some r) :
    Calls Tryz.prog 5 [.pointer (some ⟨O, 0, none⟩), iV Bq, iV Bl].toArray w (Ret w [O] fun _ v w' => (LEnt.blk O [U, iV r.2] 25).holds w' ∧ v = iV r.1) := by
 refine f_enter [O] [.blk O [U, iV Af] 25] Tryz.func5 rfl Tryz.ntmps5 rfl (fun e he => by simp only [List.mem_singleton] at he;subst he;exact Aw) (by simp [fps, LEnt.fp]) (by simp [fps, LEnt.fp]) fun a S => ?_
 unfold Stream_Range at h
 replace S := S.nk [.blk O [U, iV Af] 25] [(0, .pointer (some ⟨O, 0, none⟩)), (1, iV Bq), (2, iV Bl)] [true] rfl (subR rfl)
 refine Fs (Fg (lv S (Ra rfl) rfl ?_));clear S;intro a S
 refine Ld (Tn (Fs (Fs (Fg (lv S (Rm (S.tm rfl)) rfl ?_)))));clear S;intro a S
 refine lv S (Rm (S.tm rfl)) rfl ?_;clear S;intro a S
 refine lv S (rn_lss (S.tm rfl) (S.tm rfl)) rfl ?_;clear S;intro a S
 refine Ld (Tn (f_cond (S.tm rfl) (fun hb1 => ?_) (fun hb1 => ?_)))
 ·replace h := iteT h hb1
  refine Fs (Fg (lv S (Rm (S.tm rfl)) rfl ?_));clear S;intro a S
  refine lv S (Ra (S.tm rfl)) rfl ?_;clear S;intro a S
  refine Ld (Tn (wp_ret (then_r ?_)))
  obtain rfl := Option.some.inj h
  exact f_ret S Tryz.results5 rfl ⟨(S.holds _ (List.mem_of_getElem? (i := 0) rfl)), rfl⟩
 ·replace h := iteF h hb1
  refine wp_skip (Tn (Fs (Fg (lv S (Rm (S.tm rfl)) rfl ?_))));clear S;intro a S
  iterate 3 (refine lv S (Rm (S.tm rfl)) rfl ?_;clear S;intro a S)
  refine lv S (rn_sub (S.tm rfl) (S.tm rfl)) rfl ?_;clear S;intro a S
  refine lv S (rn_add (S.tm rfl) rfl) rfl ?_;clear S;intro a S
  obtain ⟨r1, hr1, h⟩ := bindE h
  refine l_enter1 0 S (b := O) rfl rfl (fun _ => .blk O [U, iV r1.2] 25) (fun _ => run_call (vs := [.pointer (some ⟨O, 0, none⟩), iV (W ((W (Bl - Bq)) + 1))]) ⟨(S.tm rfl), (S.tm rfl), trivial⟩ Tryz.call17) (Stream_Next_ok _ O U Ah (Ai.mono (S.le_arg (fp_sub (i := 0) (e := .blk O [U, iV Af] 25) rfl))) Af (S.holds _ (List.mem_of_getElem? (i := 0) rfl)) (W ((W (Bl - Bq)) + 1)) _ hr1) rfl (fun _ _ _ h => ⟨h.1, fun _ hc => by cases hc;rfl⟩) ?_;clear S;intro v1 a w1 hv1 hk1 hn1 S
  replace hv1 := hv1.2
  subst hv1
  refine lv S (rn_add (S.tm rfl) (S.tm rfl)) rfl ?_;clear S;intro a S
  refine lv S (Ra (S.tm rfl)) rfl ?_;clear S;intro a S
  refine Ld ?_
  replace S := S.nk [.blk O [U, iV r1.2] 25] [(6, iV (W (Bq + r1.1)))] [true] rfl ⟨rfl, trivial⟩
  refine Tn (wp_ret ?_)
  obtain rfl := Option.some.inj h
  exact f_ret S Tryz.results5 rfl ⟨(S.holds _ (List.mem_of_getElem? (i := 0) rfl)), rfl⟩
theorem Stream_Pick_ok (w : World) (O : Nat) (U : Value) (Ah : List Int) (Ai : Slc (view w [O]) 1 U (Ah.map eInt)) (Af : Int) (Aw : (LEnt.blk O [U, iV Af] 25).holds w) (Ab : Value) (Ac : List Int) (Ao : Slc (view w [O]) 1 Ab (Ac.map eInt)) (r : Int × Int) (h : Stream_Pick Ah Af Ac = some r) :
    Calls Tryz.prog 14 [.pointer (some ⟨O, 0, none⟩), Ab].toArray w (Ret w [O] fun _ v w' => (LEnt.blk O [U, iV r.2] 25).holds w' ∧ v = iV r.1) := by
 refine f_enter [O] [.blk O [U, iV Af] 25] Tryz.func14 rfl Tryz.ntmps14 rfl (fun e he => by simp only [List.mem_singleton] at he;subst he;exact Aw) (by simp [fps, LEnt.fp]) (by simp [fps, LEnt.fp]) fun a S => ?_
 unfold Stream_Pick at h
 replace S := S.nk [.blk O [U, iV Af] 25] [(0, .pointer (some ⟨O, 0, none⟩)), (1, Ab)] [true] rfl (subR rfl)
 refine Fs (Fg (lv S (Ra rfl) rfl ?_));clear S;intro a S
 refine Ld (Tn (Fs (Fg (lv S (Rm (S.tm rfl)) rfl ?_))));clear S;intro a S
 refine lv S (Rm (S.tm rfl)) rfl ?_;clear S;intro a S
 refine lv S (Rm (S.tm rfl)) rfl ?_;clear S;intro a S
 refine lv S (rn_lenT sl_22 (S.tm rfl) (slc_len Ao)) rfl ?_;clear S;intro a S
 obtain ⟨r1, hr1, h⟩ := bindE h
 refine l_enter1 0 S (b := O) rfl rfl (fun _ => .blk O [U, iV r1.2] 25) (fun _ => run_call (vs := [.pointer (some ⟨O, 0, none⟩), iV (Ac.length : Int)]) ⟨(S.tm rfl), (S.tm rfl), trivial⟩ Tryz.call17) (Stream_Next_ok _ O U Ah (Ai.mono (S.le_arg (fp_sub (i := 0) (e := .blk O [U, iV Af] 25) rfl))) Af (S.holds _ (List.mem_of_getElem? (i := 0) rfl)) (Ac.length : Int) _ hr1) rfl (fun _ _ _ h => ⟨h.1, fun _ hc => by cases hc;rfl⟩) ?_;clear S;intro v1 a w1 hv1 hk1 hn1 S
 replace hv1 := hv1.2
 subst hv1
 obtain ⟨hc1, h⟩ := chkE h
 obtain ⟨b1, o1, hm1, hr2⟩ := rn_indexT (a := a) (x := .tmp 5) (y := .tmp 9) (ty := 0) sl_22 Ao (inB_get hc1).1 (inB_get hc1).2 (S.tm rfl) (S.tm rfl)
 refine lv S (hr2 _) rfl ?_;clear S;intro a S
 clear hr2
 refine lv S (rn_ld Tryz.isAgg3 (off := o1) (o := 0) (S.tm rfl) (hm1.at S.emb0) rfl) rfl ?_;clear S;intro a S
 refine lv S (Ra (S.tm rfl)) rfl ?_;clear S;intro a S
 refine Ld (Tn (wp_ret ?_))
 obtain rfl := Option.some.inj h
 exact f_ret S Tryz.results14 rfl ⟨(S.holds _ (List.mem_of_getElem? (i := 0) rfl)), rfl⟩
theorem Stream_Some_ok (w : World) (O : Nat) (U : Value) (Ah : List Int) (Ai : Slc (view w [O]) 1 U (Ah.map eInt)) (Af : Int) (Aw : (LEnt.blk O [U, iV Af] 25).holds w) (Ab : Value) (Ac : List ByteArray) (Ao : Slc (view w [O]) 1 Ab (Ac.map eStr)) (r : ByteArray × Int) (h : Stream_Some Ah Af Ac = some r) :
    Calls Tryz.prog 15 [.pointer (some ⟨O, 0, none⟩), Ab].toArray w (Ret w [O] fun _ v w' => (LEnt.blk O [U, iV r.2] 25).holds w' ∧ v = sV r.1) := by
 refine f_enter [O] [.blk O [U, iV Af] 25] Tryz.func15 rfl Tryz.ntmps15 rfl (fun e he => by simp only [List.mem_singleton] at he;subst he;exact Aw) (by simp [fps, LEnt.fp]) (by simp [fps, LEnt.fp]) fun a S => ?_
 unfold Stream_Some at h
 replace S := S.nk [.blk O [U, iV Af] 25] [(0, .pointer (some ⟨O, 0, none⟩)), (1, Ab)] [true] rfl (subR rfl)
 refine Fs (Fg (lv S (Ra rfl) rfl ?_));clear S;intro a S
 refine Ld (Tn (Fs (Fg (lv S (Rm (S.tm rfl)) rfl ?_))));clear S;intro a S
 refine lv S (Rm (S.tm rfl)) rfl ?_;clear S;intro a S
 refine lv S (Rm (S.tm rfl)) rfl ?_;clear S;intro a S
 refine lv S (rn_lenT sl_55 (S.tm rfl) (slc_len Ao)) rfl ?_;clear S;intro a S
 obtain ⟨r1, hr1, h⟩ := bindE h
 refine l_enter1 0 S (b := O) rfl rfl (fun _ => .blk O [U, iV r1.2] 25) (fun _ => run_call (vs := [.pointer (some ⟨O, 0, none⟩), iV (Ac.length : Int)]) ⟨(S.tm rfl), (S.tm rfl), trivial⟩ Tryz.call17) (Stream_Next_ok _ O U Ah (Ai.mono (S.le_arg (fp_sub (i := 0) (e := .blk O [U, iV Af] 25) rfl))) Af (S.holds _ (List.mem_of_getElem? (i := 0) rfl)) (Ac.length : Int) _ hr1) rfl (fun _ _ _ h => ⟨h.1, fun _ hc => by cases hc;rfl⟩) ?_;clear S;intro v1 a w1 hv1 hk1 hn1 S
 replace hv1 := hv1.2
 subst hv1
 obtain ⟨hc1, h⟩ := chkE h
 obtain ⟨b1, o1, hm1, hr2⟩ := rn_indexT (a := a) (x := .tmp 5) (y := .tmp 9) (ty := 0) sl_55 Ao (inB_get hc1).1 (inB_get hc1).2 (S.tm rfl) (S.tm rfl)
 refine lv S (hr2 _) rfl ?_;clear S;intro a S
 clear hr2
 refine lv S (rn_ld Tryz.isAgg9 (off := o1) (o := 0) (S.tm rfl) (hm1.at S.emb0) rfl) rfl ?_;clear S;intro a S
 refine lv S (Ra (S.tm rfl)) rfl ?_;clear S;intro a S
 refine Ld (Tn (wp_ret ?_))
 obtain rfl := Option.some.inj h
 exact f_ret S Tryz.results15 rfl ⟨(S.holds _ (List.mem_of_getElem? (i := 0) rfl)), rfl⟩
theorem Stream_Flip_ok (w : World) (O : Nat) (U : Value) (Ah : List Int) (Ai : Slc (view w [O]) 1 U (Ah.map eInt)) (Af : Int) (Aw : (LEnt.blk O [U, iV Af] 25).holds w) (Be : Int) (r : Bool × Int) (h : Stream_Flip Ah Af Be = some r) :
    Calls Tryz.prog 16 [.pointer (some ⟨O, 0, none⟩), iV Be].toArray w (Ret w [O] fun _ v w' => (LEnt.blk O [U, iV r.2] 25).holds w' ∧ v = bV r.1) := by
 refine f_enter [O] [.blk O [U, iV Af] 25] Tryz.func16 rfl Tryz.ntmps16 rfl (fun e he => by simp only [List.mem_singleton] at he;subst he;exact Aw) (by simp [fps, LEnt.fp]) (by simp [fps, LEnt.fp]) fun a S => ?_
 unfold Stream_Flip at h
 replace S := S.nk [.blk O [U, iV Af] 25] [(0, .pointer (some ⟨O, 0, none⟩)), (1, iV Be)] [true] rfl (subR rfl)
 refine Fs (Fg (lv S (Ra rfl) rfl ?_));clear S;intro a S
 refine Ld (Tn (Fs (Fg (lv S (Rm (S.tm rfl)) rfl ?_))));clear S;intro a S
 refine lv S (Rm (S.tm rfl)) rfl ?_;clear S;intro a S
 obtain ⟨r1, hr1, h⟩ := bindE h
 refine l_enter1 0 S (b := O) rfl rfl (fun _ => .blk O [U, iV r1.2] 25) (fun _ => run_call (vs := [.pointer (some ⟨O, 0, none⟩), iV Be]) ⟨(S.tm rfl), (S.tm rfl), trivial⟩ Tryz.call17) (Stream_Next_ok _ O U Ah (Ai.mono (S.le_arg (fp_sub (i := 0) (e := .blk O [U, iV Af] 25) rfl))) Af (S.holds _ (List.mem_of_getElem? (i := 0) rfl)) Be _ hr1) rfl (fun _ _ _ h => ⟨h.1, fun _ hc => by cases hc;rfl⟩) ?_;clear S;intro v1 a w1 hv1 hk1 hn1 S
 replace hv1 := hv1.2
 subst hv1
 refine lv S (rn_eql (S.tm rfl) rfl) rfl ?_;clear S;intro a S
 refine lv S (Ra (S.tm rfl)) rfl ?_;clear S;intro a S
 refine Ld (Tn (wp_ret ?_))
 obtain rfl := Option.some.inj h
 exact f_ret S Tryz.results16 rfl ⟨(S.holds _ (List.mem_of_getElem? (i := 0) rfl)), rfl⟩
theorem Stream_Odd_ok (w : World) (O : Nat) (U : Value) (Ah : List Int) (Ai : Slc (view w [O]) 1 U (Ah.map eInt)) (Af : Int) (Aw : (LEnt.blk O [U, iV Af] 25).holds w) (Bq : Int) (Bl : Int) (r : Int × Int) (h : Stream_Odd Ah Af Bq Bl = some r) :
    Calls Tryz.prog 18 [.pointer (some ⟨O, 0, none⟩), iV Bq, iV Bl].toArray w (Ret w [O] fun _ v w' => (LEnt.blk O [U, iV r.2] 25).holds w' ∧ v = iV r.1) := by
 refine f_enter [O] [.blk O [U, iV Af] 25] Tryz.func18 rfl Tryz.ntmps18 rfl (fun e he => by simp only [List.mem_singleton] at he;subst he;exact Aw) (by simp [fps, LEnt.fp]) (by simp [fps, LEnt.fp]) fun a S => ?_
 unfold Stream_Odd at h
 replace S := S.nk [.blk O [U, iV Af] 25] [(0, .pointer (some ⟨O, 0, none⟩)), (1, iV Bq), (2, iV Bl)] [true] rfl (subR rfl)
 refine Fs (Fg (lv S (Ra rfl) rfl ?_));clear S;intro a S
 refine Ld (Tn (Fs (Fs (Fg (lv S (Rm (S.tm rfl)) rfl ?_)))));clear S;intro a S
 obtain ⟨r1, hr1, h⟩ := bindE h
 refine l_enter1 0 S (b := O) rfl rfl (fun _ => .blk O [U, iV r1.2] 25) (fun _ => run_call (vs := [.pointer (some ⟨O, 0, none⟩), iV 12]) ⟨(S.tm rfl), rfl, trivial⟩ Tryz.call16) (Stream_Flip_ok _ O U Ah (Ai.mono (S.le_arg (fp_sub (i := 0) (e := .blk O [U, iV Af] 25) rfl))) Af (S.holds _ (List.mem_of_getElem? (i := 0) rfl)) 12 _ hr1) rfl (fun _ _ _ h => ⟨h.1, fun _ hc => by cases hc;rfl⟩) ?_;clear S;intro v1 a w1 hv1 hk1 hn1 S
 replace hv1 := hv1.2
 subst hv1
 refine Ld (Tn (f_cond (S.tm rfl) (fun hb1 => ?_) (fun hb1 => ?_)))
 ·replace h := iteT h hb1
  refine Fs (Fg (lv S (Rm (S.tm rfl)) rfl ?_));clear S;intro a S
  refine lv S (Rm (S.tm rfl)) rfl ?_;clear S;intro a S
  refine lv S (rn_sub (S.tm rfl) rfl) rfl ?_;clear S;intro a S
  refine lv S (Rm (S.tm rfl)) rfl ?_;clear S;intro a S
  refine lv S (rn_add (S.tm rfl) rfl) rfl ?_;clear S;intro a S
  refine lv S (Rm (S.tm rfl)) rfl ?_;clear S;intro a S
  refine lv S (Rm (S.tm rfl)) rfl ?_;clear S;intro a S
  refine l_buildSlice S Tryz.underlying22 Tryz.sizeOf3 Tryz.zeroValue3 rfl rfl (pv := [(0, iV (W (Bq - 1))), (1, iV (W (Bl + 1))), (2, iV Bq), (3, iV Bl), (4, iV (-1099511627776)), (5, iV 1099511627776)]) ⟨rfl, (S.tm rfl), rfl, (S.tm rfl), rfl, (S.tm rfl), rfl, (S.tm rfl), rfl, rfl, rfl, rfl, trivial⟩ (cs := [iV (W (Bq - 1)), iV (W (Bl + 1)), iV Bq, iV Bl, iV (-1099511627776), iV 1099511627776]) (by kernel_rfl) rfl ?_;clear S;intro a w2 b1 hz1 hk2 S
  obtain ⟨r2, hr2, h⟩ := bindE h
  refine l_enter1 1 S (b := O) rfl rfl (fun _ => .blk O [U, iV r2.2] 25) (fun _ => run_call (vs := [.pointer (some ⟨O, 0, none⟩), .slice (some ⟨b1, 0, none⟩) 6 6]) ⟨(S.tm rfl), (S.tm rfl), trivial⟩ Tryz.call14) (Stream_Pick_ok _ O U Ah (Ai.mono (S.le_arg (fp_sub (i := 1) (e := .blk O [U, iV r1.2] 25) rfl))) r1.2 (S.holds _ (List.mem_of_getElem? (i := 1) rfl)) (.slice (some ⟨b1, 0, none⟩) 6 6) [W (Bq - 1), W (Bl + 1), Bq, Bl, (-1099511627776), 1099511627776] (lit_slcT enc_int S (i := 0) rfl rfl rfl rfl ((ne_fp (i := 1) (j := 0) (e := .blk O [U, iV r1.2] 25) (e' := .blk b1 [iV (W (Bq - 1)), iV (W (Bl + 1)), iV Bq, iV Bl, iV (-1099511627776), iV 1099511627776] 3) S rfl rfl rfl) _ rfl)) _ hr2) rfl (fun _ _ _ h => ⟨h.1, fun _ hc => by cases hc;rfl⟩) ?_;clear S;intro v2 a w3 hv2 hk3 hn2 S
  replace hv2 := hv2.2
  subst hv2
  refine lv S (Ra (S.tm rfl)) rfl ?_;clear S;intro a S
  refine Ld ?_
  replace S := S.nk [.blk O [U, iV r2.2] 25] [(6, iV r2.1)] [false, true] rfl ⟨rfl, trivial⟩
  refine Tn (wp_ret (then_r ?_))
  obtain rfl := Option.some.inj h
  exact f_ret S Tryz.results18 rfl ⟨(S.holds _ (List.mem_of_getElem? (i := 0) rfl)), rfl⟩
 ·replace h := iteF h hb1
  refine wp_skip (Tn (Fs (Fg (lv S (Rm (S.tm rfl)) rfl ?_))));clear S;intro a S
  refine lv S (Rm (S.tm rfl)) rfl ?_;clear S;intro a S
  refine lv S (Rm (S.tm rfl)) rfl ?_;clear S;intro a S
  obtain ⟨r3, hr3, h⟩ := bindE h
  refine l_enter1 0 S (b := O) rfl rfl (fun _ => .blk O [U, iV r3.2] 25) (fun _ => run_call (vs := [.pointer (some ⟨O, 0, none⟩), iV Bq, iV Bl]) ⟨(S.tm rfl), (S.tm rfl), (S.tm rfl), trivial⟩ Tryz.call5) (Stream_Range_ok _ O U Ah (Ai.mono (S.le_arg (fp_sub (i := 0) (e := .blk O [U, iV r1.2] 25) rfl))) r1.2 (S.holds _ (List.mem_of_getElem? (i := 0) rfl)) Bq Bl _ hr3) rfl (fun _ _ _ h => ⟨h.1, fun _ hc => by cases hc;rfl⟩) ?_;clear S;intro v3 a w4 hv3 hk4 hn3 S
  replace hv3 := hv3.2
  subst hv3
  refine lv S (Ra (S.tm rfl)) rfl ?_;clear S;intro a S
  refine Ld (Tn (wp_ret ?_))
  obtain rfl := Option.some.inj h
  exact f_ret S Tryz.results18 rfl ⟨(S.holds _ (List.mem_of_getElem? (i := 0) rfl)), rfl⟩
theorem tumbref2_sign_ok (w : World) (Be : Int) (r : Int) (h : tumbref2_sign Be = r) :
    Calls Tryz.prog 51 [iV Be].toArray w (Ret w [] fun _ v _ => v = iV r) := by
 refine f_enter [] [] Tryz.func51 rfl Tryz.ntmps51 rfl (by simp) (by simp [fps]) (by simp [fps]) fun a S => ?_
 unfold tumbref2_sign at h
 replace S := S.nk [] [(0, iV Be)] [] rfl ⟨rfl, trivial⟩
 refine Fs (Fg (lv S (Ra rfl) rfl ?_));clear S;intro a S
 refine Ld (Tn (Fs (wp_block (Fs (Fg (lv S (Rm (S.tm rfl)) rfl ?_))))));clear S;intro a S
 refine lv S (rn_lss (S.tm rfl) rfl) rfl ?_;clear S;intro a S
 refine lv S (Ra (S.tm rfl)) rfl ?_;clear S;intro a S
 refine Ld (Tn (f_cond (S.tm rfl) (fun hb1 => ?_) (fun hb1 => ?_)))
 ·replace h := iteT h hb1
  refine Fs (Fg (lv S (Ra rfl) rfl ?_));clear S;intro a S
  refine Ld (Tn (wp_ret (blk_r (then_r ?_))))
  subst h
  exact f_ret S Tryz.results51 rfl rfl
 ·replace h := iteF h hb1
  refine Fs (Fg (lv S (Rm (S.tm rfl)) rfl ?_));clear S;intro a S
  refine lv S (rn_gtr (S.tm rfl) rfl) rfl ?_;clear S;intro a S
  refine lv S (Ra (S.tm rfl)) rfl ?_;clear S;intro a S
  refine Ld (Tn (f_cond (S.tm rfl) (fun hb2 => ?_) (fun hb2 => ?_)))
  ·replace h := iteT h hb2
   refine Fs (Fg (lv S (Ra rfl) rfl ?_));clear S;intro a S
   refine Ld (Tn (wp_ret (blk_r (then_r ?_))))
   subst h
   exact f_ret S Tryz.results51 rfl rfl
  ·replace h := iteF h hb2
   refine wp_skip (blk_n (Tn (Fs (Fg (lv S (Ra rfl) rfl ?_)))));clear S;intro a S
   refine Ld (Tn (wp_ret ?_))
   subst h
   exact f_ret S Tryz.results51 rfl rfl
theorem strings_Compare_ok (w : World) (s t : ByteArray) (r : Int) (h : strings_Compare s t = r) : Calls Tryz.prog 52 [.string s, .string t].toArray w (Ret w [] fun _ v _ => v = .int .i64 r) := by
  subst h
  exact ret_of_same (Any.strings_Compare Tryz.lays106 s t w)
theorem tumbref2_DeedOrder_ok (w : World) (Aq : GDeed) (Ar : GDeed) (r : Int) (h : tumbref2_DeedOrder Aq Ar = r) :
    Calls Tryz.prog 20 [.agg (GDeed.enc Aq).toArray, .agg (GDeed.enc Ar).toArray].toArray w (Ret w [] fun _ v _ => v = iV r) := by
 refine f_enter [] [] Tryz.func20 rfl Tryz.ntmps20 rfl (by simp) (by simp [fps]) (by simp [fps]) fun a S => ?_
 unfold tumbref2_DeedOrder at h
 replace S := S.nk [] [(0, .agg (GDeed.enc Aq).toArray), (1, .agg (GDeed.enc Ar).toArray)] [] rfl (subR rfl)
 refine Fs (Fg (l_box S (S.tm rfl) (cs := (GDeed.enc Aq)) rfl rfl ?_));clear S;intro a w1 b1 hz1 hk1 S
 refine l_box S (S.tm rfl) (cs := (GDeed.enc Ar)) rfl rfl ?_;clear S;intro a w2 b2 hz2 hk2 S
 refine lv S (Ra rfl) rfl ?_;clear S;intro a S
 refine Ld (Tn (Fs (wp_block (Fs (Fg (lv S (rn_fld fa_39_2 (S.tm rfl)) rfl ?_))))));clear S;intro a S
 refine lv S (rn_load Tryz.isAgg3 (S.tm rfl) (S.cell (i := 1) rfl rfl)) rfl ?_;clear S;intro a S
 refine lv S (rn_fld fa_39_2 (S.tm rfl)) rfl ?_;clear S;intro a S
 refine lv S (rn_load Tryz.isAgg3 (S.tm rfl) (S.cell (i := 0) rfl rfl)) rfl ?_;clear S;intro a S
 refine lv S (rn_neq (S.tm rfl) (S.tm rfl)) rfl ?_;clear S;intro a S
 refine lv S (Ra (S.tm rfl)) rfl ?_;clear S;intro a S
 refine Ld (Tn (f_cond (S.tm rfl) (fun hb1 => ?_) (fun hb1 => ?_)))
 ·replace h := iteT h hb1
  refine Fs (Fg (lv S (rn_fld fa_39_2 (S.tm rfl)) rfl ?_));clear S;intro a S
  refine lv S (rn_load Tryz.isAgg3 (S.tm rfl) (S.cell (i := 1) rfl rfl)) rfl ?_;clear S;intro a S
  refine lv S (rn_fld fa_39_2 (S.tm rfl)) rfl ?_;clear S;intro a S
  refine lv S (rn_load Tryz.isAgg3 (S.tm rfl) (S.cell (i := 0) rfl rfl)) rfl ?_;clear S;intro a S
  refine lv S (rn_sub (S.tm rfl) (S.tm rfl)) rfl ?_;clear S;intro a S
  refine l_enter S (fun _ => run_call (vs := [iV (W (Aq.At - Ar.At))]) ⟨(S.tm rfl), trivial⟩ Tryz.call51) (tumbref2_sign_ok _ (W (Aq.At - Ar.At)) _ rfl) rfl ?_;clear S;intro v1 a w3 hv1 hk3 hn1 S
  subst hv1
  refine lv S (Ra (S.tm rfl)) rfl ?_;clear S;intro a S
  refine Ld ?_
  replace S := S.nk [] [(4, iV (tumbref2_sign (W (Aq.At - Ar.At))))] [false, false] rfl ⟨rfl, trivial⟩
  refine Tn (wp_ret (blk_r (then_r ?_)))
  subst h
  exact f_ret S Tryz.results20 rfl rfl
 ·replace h := iteF h hb1
  refine Fs (Fg (lv S (rn_fld fa_39_0 (S.tm rfl)) rfl ?_));clear S;intro a S
  refine lv S (rn_load Tryz.isAgg9 (S.tm rfl) (S.cell (i := 1) rfl rfl)) rfl ?_;clear S;intro a S
  refine lv S (rn_fld fa_39_0 (S.tm rfl)) rfl ?_;clear S;intro a S
  refine lv S (rn_load Tryz.isAgg9 (S.tm rfl) (S.cell (i := 0) rfl rfl)) rfl ?_;clear S;intro a S
  refine lv S (rn_sneq (S.tm rfl) (S.tm rfl)) rfl ?_;clear S;intro a S
  refine lv S (Ra (S.tm rfl)) rfl ?_;clear S;intro a S
  refine Ld ?_
  replace S := S.nk [.blk b2 (GDeed.enc Ar) 39, .blk b1 (GDeed.enc Aq) 39] [(2, .pointer (some ⟨b1, 0, none⟩)), (3, .pointer (some ⟨b2, 0, none⟩)), (17, bV (!decide (Aq.Site = Ar.Site)))] [true, true] rfl (subR rfl)
  refine Tn (f_cond (S.tm rfl) (fun hb2 => ?_) (fun hb2 => ?_))
  ·replace h := iteT h hb2
   refine Fs (Fg (lv S (rn_fld fa_39_0 (S.tm rfl)) rfl ?_));clear S;intro a S
   refine lv S (rn_load Tryz.isAgg9 (S.tm rfl) (S.cell (i := 1) rfl rfl)) rfl ?_;clear S;intro a S
   refine lv S (rn_fld fa_39_0 (S.tm rfl)) rfl ?_;clear S;intro a S
   refine lv S (rn_load Tryz.isAgg9 (S.tm rfl) (S.cell (i := 0) rfl rfl)) rfl ?_;clear S;intro a S
   refine l_enter S (fun _ => run_call (vs := [sV Aq.Site, sV Ar.Site]) ⟨(S.tm rfl), (S.tm rfl), trivial⟩ Tryz.call52) (strings_Compare_ok _ Aq.Site Ar.Site _ rfl) rfl ?_;clear S;intro v2 a w4 hv2 hk4 hn2 S
   subst hv2
   refine lv S (Ra (S.tm rfl)) rfl ?_;clear S;intro a S
   refine Ld (Tn (wp_ret (blk_r (then_r ?_))))
   subst h
   exact f_ret S Tryz.results20 rfl rfl
  ·replace h := iteF h hb2
   refine wp_skip (blk_n (Tn (Fs (Fg (lv S (rn_fld fa_39_1 (S.tm rfl)) rfl ?_)))));clear S;intro a S
   refine lv S (rn_load Tryz.isAgg3 (S.tm rfl) (S.cell (i := 1) rfl rfl)) rfl ?_;clear S;intro a S
   refine lv S (rn_fld fa_39_1 (S.tm rfl)) rfl ?_;clear S;intro a S
   refine lv S (rn_load Tryz.isAgg3 (S.tm rfl) (S.cell (i := 0) rfl rfl)) rfl ?_;clear S;intro a S
   refine lv S (rn_sub (S.tm rfl) (S.tm rfl)) rfl ?_;clear S;intro a S
   refine l_enter S (fun _ => run_call (vs := [iV (W (Aq.No - Ar.No))]) ⟨(S.tm rfl), trivial⟩ Tryz.call51) (tumbref2_sign_ok _ (W (Aq.No - Ar.No)) _ rfl) rfl ?_;clear S;intro v3 a w5 hv3 hk5 hn3 S
   subst hv3
   refine lv S (Ra (S.tm rfl)) rfl ?_;clear S;intro a S
   refine Ld (Tn (wp_ret ?_))
   subst h
   exact f_ret S Tryz.results20 rfl rfl
set_option maxRecDepth 20000 in
theorem slices_insertionSortCmpFunc_Deed_tumbref2_DeedOrder_ok (w : World) (Z : Value) (As : List GDeed) (Cj : (LEnt.own Z 39 11 As.length (As.flatMap GDeed.enc)).holds w) (Aq : Int) (Ar : Int) (r : (List GDeed)) (h : slices_insertionSortCmpFunc_Deed_tumbref2_DeedOrder As Aq Ar = some r) :
    Calls Tryz.prog 71 [Z, iV Aq, iV Ar, .func (.func 20) #[] #[]].toArray w (Ret w (Z.ownBlock.toList) fun _ v w' => (LEnt.own Z 39 11 r.length (r.flatMap GDeed.enc)).holds w' ∧ v = .tuple #[]) := by
 refine f_enter (Z.ownBlock.toList) [.own Z 39 11 As.length (As.flatMap GDeed.enc)] Tryz.func71 rfl Tryz.ntmps71 rfl (fun e he => by simp only [List.mem_singleton] at he;subst he;exact Cj) (fps_one_nodup _) (fps_one_sub _) fun a S => ?_
 unfold slices_insertionSortCmpFunc_Deed_tumbref2_DeedOrder at h
 replace S := S.nk [.own Z 39 11 As.length (As.flatMap GDeed.enc)] [(0, Z), (1, iV Aq), (2, iV Ar), (3, .func (.func 20) #[] #[])] [true] rfl (subR rfl)
 refine Fs (Fg (lv S (Rm (S.tm rfl)) rfl ?_));clear S;intro a S
 refine lv S (rn_add (S.tm rfl) rfl) rfl ?_;clear S;intro a S
 refine lv S (Ra (S.tm rfl)) rfl ?_;clear S;intro a S
 refine Ld (Tn ?_)
 replace S := S.nk [.own Z 39 11 As.length (As.flatMap GDeed.enc)] [(0, Z), (1, iV Aq), (2, iV Ar), (3, .func (.func 20) #[] #[]), (8, iV (W (Aq + 1)))] [true] rfl (subR rfl)
 obtain ⟨j1, hj1, h⟩ := joinE h
 refine f_join (fun a w' => ∃ x1 : List GDeed, j1 x1 = some r ∧ Sx w (Z.ownBlock.toList) nov [.own Z 39 11 x1.length (x1.flatMap GDeed.enc)] [] 53 a w') ?_ ?_
 ·refine wp_block (f_loop (fun (m1 : Nat) a w' => ∃ x1 : List GDeed, ∃ x2 : Int, slices_insertionSortCmpFunc_Deed_tumbref2_DeedOrder_l1 Ar Aq j1 m1 x1 x2 = some r ∧ Sx w (Z.ownBlock.toList) nov [.own Z 39 11 x1.length (x1.flatMap GDeed.enc)] [(0, Z), (1, iV Aq), (2, iV Ar), (3, .func (.func 20) #[] #[]), (8, iV x2)] 53 a w') id ((Ar - (W (Aq + 1))).toNat + 2) ⟨As, W (Aq + 1), h, S.nf [true] rfl (subR rfl)⟩ ?_)
  clear S h;rintro m1 a w1 ⟨x1, x2, h, S⟩
  cases m1 with
  | zero => rw [slices_insertionSortCmpFunc_Deed_tumbref2_DeedOrder_l1.eq_1] at h;cases h
  | succ m1 =>
   rw [slices_insertionSortCmpFunc_Deed_tumbref2_DeedOrder_l1.eq_2] at h
   refine Fs (Fs (Fg (lv S (Rm (S.tm rfl)) rfl ?_)));clear S;intro a S
   refine lv S (Rm (S.tm rfl)) rfl ?_;clear S;intro a S
   refine lv S (rn_lss (S.tm rfl) (S.tm rfl)) rfl ?_;clear S;intro a S
   refine Ld (Tn (f_cond (S.tm rfl) (fun hb1 => ?_) (fun hb1 => ?_)))
   ·replace h := iteT h hb1
    refine wp_skip (Tn (Fs (wp_block (Fs (Fg (lv S (Rm (S.tm rfl)) rfl ?_))))));clear S;intro a S
    refine lv S (Ra (S.tm rfl)) rfl ?_;clear S;intro a S
    refine Ld (Tn ?_)
    replace S := S.nk [.own Z 39 11 x1.length (x1.flatMap GDeed.enc)] [(0, Z), (1, iV Aq), (2, iV Ar), (3, .func (.func 20) #[] #[]), (8, iV x2), (9, iV x2)] [true] rfl (subR rfl)
    obtain ⟨j2, hj2, h⟩ := joinE h
    refine f_join (fun a w' => ∃ x3 : List GDeed, j2 x3 = some r ∧ Sx w (Z.ownBlock.toList) nov [.own Z 39 11 x3.length (x3.flatMap GDeed.enc)] [(0, Z), (1, iV Aq), (2, iV Ar), (3, .func (.func 20) #[] #[]), (8, iV x2)] 53 a w') ?_ ?_
    ·refine wp_block (f_loop (fun (m2 : Nat) a w' => ∃ x3 : List GDeed, ∃ x4 : Int, slices_insertionSortCmpFunc_Deed_tumbref2_DeedOrder_l2 Aq j2 m2 x3 x4 = some r ∧ Sx w (Z.ownBlock.toList) nov [.own Z 39 11 x3.length (x3.flatMap GDeed.enc)] [(0, Z), (1, iV Aq), (2, iV Ar), (3, .func (.func 20) #[] #[]), (8, iV x2), (9, iV x4)] 53 a w') id ((x2 - Aq).toNat + 2) ⟨x1, x2, h, S.nf [true] rfl (subR rfl)⟩ ?_)
     clear S h;rintro m2 a w3 ⟨x3, x4, h, S⟩
     cases m2 with
     | zero => rw [slices_insertionSortCmpFunc_Deed_tumbref2_DeedOrder_l2.eq_1] at h;cases h
     | succ m2 =>
      rw [slices_insertionSortCmpFunc_Deed_tumbref2_DeedOrder_l2.eq_2] at h
      refine Fs (Fs ?_)
      obtain ⟨j3, hj3, h⟩ := joinE h
      refine f_join (fun a w' => ∃ x5 : Bool, j3 x5 = some r ∧ Sx w (Z.ownBlock.toList) nov [.own Z 39 11 x3.length (x3.flatMap GDeed.enc)] [(0, Z), (1, iV Aq), (2, iV Ar), (3, .func (.func 20) #[] #[]), (8, iV x2), (9, iV x4), (34, bV x5)] 53 a w') ?_ ?_
      ·rcases Bool.eq_false_or_eq_true (decide (Aq < x4)) with hb2 | hb2
       ·replace h := iteT h hb2
        obtain ⟨hc1, h⟩ := chkE h
        obtain ⟨hc2, h⟩ := chkE h
        refine d_region [] ([]) Tryz.mixed S rfl (by kernel_rfl) ?_;clear S;intro w7 hk2 hsel S
        refine d_quiet 0 S hsel rfl rfl rfl (by kernel_rfl) (by kernel_rfl) rfl (fun _ hw => (Rm (S.tm rfl))) ?_;clear S;intro a S
        refine d_quiet 1 S hsel rfl rfl rfl (by kernel_rfl) (by kernel_rfl) rfl (fun _ hw => (Rm (S.tm rfl))) ?_;clear S;intro a S
        refine d_quiet 2 S hsel rfl rfl rfl (by kernel_rfl) (by kernel_rfl) rfl (fun _ hw => (rn_gtr (S.tm rfl) (S.tm rfl))) ?_;clear S;intro a S
        refine d_quiet 3 S hsel rfl rfl rfl (by kernel_rfl) (by kernel_rfl) rfl (fun _ hw => (Rm (S.tm rfl))) ?_;clear S;intro a S
        refine d_quiet_g 4 S hsel rfl rfl rfl rfl hb2 rfl rfl (by kernel_rfl) (by kernel_rfl) rfl (fun _ hw => (Rm (S.tm rfl))) ?_;clear S;intro a S
        refine d_quiet_g 5 S hsel rfl rfl rfl rfl hb2 rfl rfl (by kernel_rfl) (by kernel_rfl) rfl (fun _ hw => (Rm (S.tm rfl))) ?_;clear S;intro a S
        refine d_quiet_g 6 S hsel rfl rfl rfl rfl hb2 rfl rfl (by kernel_rfl) (by kernel_rfl) rfl (fun _ hw => (Rm (S.tm rfl))) ?_;clear S;intro a S
        obtain ⟨b3, hg3, hr3⟩ := rn_indexS (a := a) (x := .tmp 23) (y := .tmp 24) (ty := 0) sl_26 GDeed.enc_ok S (i := 0) rfl (inB_get hc1).1 (inB_get hc1).2 (S.tm rfl) (S.tm rfl)
        refine d_quiet_g 7 S hsel rfl rfl rfl rfl hb2 rfl rfl (by kernel_rfl) (by kernel_rfl) rfl (fun _ hw => (hr3 _)) ?_;clear S;intro a S
        clear hr3
        refine d_quiet_g 8 S hsel rfl rfl rfl rfl hb2 rfl rfl (by kernel_rfl) (by kernel_rfl) rfl (fun _ hw => (rn_ldA Tryz.isAgg39 Tryz.sizeOf39 (off := x4.toNat * 11) (o := 0) (part := (GDeed.enc (nth x3 x4))) rfl rfl (S.tm rfl) ((own_mem GDeed.enc_ok S (i := 0) rfl hg3 (inB_get hc1).1 (ne_nil (e' := .own Z 39 11 x3.length (x3.flatMap GDeed.enc)))).kept hw))) ?_;clear S;intro a S
        refine d_quiet_g 9 S hsel rfl rfl rfl rfl hb2 rfl rfl (by kernel_rfl) (by kernel_rfl) rfl (fun _ hw => (Rm (S.tm rfl))) ?_;clear S;intro a S
        refine d_quiet_g 10 S hsel rfl rfl rfl rfl hb2 rfl rfl (by kernel_rfl) (by kernel_rfl) rfl (fun _ hw => (Rm (S.tm rfl))) ?_;clear S;intro a S
        refine d_quiet_g 11 S hsel rfl rfl rfl rfl hb2 rfl rfl (by kernel_rfl) (by kernel_rfl) rfl (fun _ hw => (rn_sub (S.tm rfl) rfl)) ?_;clear S;intro a S
        obtain ⟨b4, hg4, hr4⟩ := rn_indexS (a := a) (x := .tmp 27) (y := .tmp 29) (ty := 0) sl_26 GDeed.enc_ok S (i := 0) rfl (inB_get hc2).1 (inB_get hc2).2 (S.tm rfl) (S.tm rfl)
        refine d_quiet_g 12 S hsel rfl rfl rfl rfl hb2 rfl rfl (by kernel_rfl) (by kernel_rfl) rfl (fun _ hw => (hr4 _)) ?_;clear S;intro a S
        clear hr4
        refine d_quiet_g 13 S hsel rfl rfl rfl rfl hb2 rfl rfl (by kernel_rfl) (by kernel_rfl) rfl (fun _ hw => (rn_ldA Tryz.isAgg39 Tryz.sizeOf39 (off := ((W (x4 - 1)).toNat) * 11) (o := 0) (part := (GDeed.enc (nth x3 (W (x4 - 1))))) rfl rfl (S.tm rfl) ((own_mem GDeed.enc_ok S (i := 0) rfl hg4 (inB_get hc2).1 (ne_nil (e' := .own Z 39 11 x3.length (x3.flatMap GDeed.enc)))).kept hw))) ?_;clear S;intro a S
        refine d_loud1 14 (by kernel_rfl) rfl (l_want S rfl rfl rfl hb2 (l_enter S (fun _ => run_callV (cap := []) (S.tm rfl) (vs := [.agg (GDeed.enc (nth x3 x4)).toArray, .agg (GDeed.enc (nth x3 (W (x4 - 1)))).toArray]) ⟨(S.tm rfl), (S.tm rfl), trivial⟩ Tryz.call20) (tumbref2_DeedOrder_ok _ (nth x3 x4) (nth x3 (W (x4 - 1))) _ rfl) rfl ?_));clear S;intro v2 a w8 hv2 hk3 hn2 S
        subst hv2
        refine Ld (d_next hk3 (d_rest [15, 16] hsel (by kernel_rfl) rfl ?_))
        clear hsel
        refine s_want S rfl rfl rfl rfl hb2 (s_lv0 S (rn_lss (S.tm rfl) rfl) rfl ?_);clear S;intro a S
        refine s_lv S rfl (rn_pick_b hb2 (S.tm rfl) (S.tm rfl)) rfl ?_;clear S;intro a S
        refine s_done ?_
        replace S := S.nk [.own Z 39 11 x3.length (x3.flatMap GDeed.enc)] [(0, Z), (1, iV Aq), (2, iV Ar), (3, .func (.func 20) #[] #[]), (8, iV x2), (9, iV x4), (22, .func (.func 20) #[] #[]), (23, Z), (24, iV x4), (25, .pointer (some ⟨b3, x4.toNat * 11, none⟩)), (26, .agg (GDeed.enc (nth x3 x4)).toArray), (27, Z), (28, iV x4), (29, iV (W (x4 - 1))), (30, .pointer (some ⟨b4, ((W (x4 - 1)).toNat) * 11, none⟩)), (31, .agg (GDeed.enc (nth x3 (W (x4 - 1)))).toArray), (32, iV (tumbref2_DeedOrder (nth x3 x4) (nth x3 (W (x4 - 1))))), (33, bV (decide ((tumbref2_DeedOrder (nth x3 x4) (nth x3 (W (x4 - 1)))) < 0))), (34, bV (decide ((tumbref2_DeedOrder (nth x3 x4) (nth x3 (W (x4 - 1)))) < 0)))] [true] rfl (subR rfl)
        refine Tn ?_
        exact ⟨decide ((tumbref2_DeedOrder (nth x3 x4) (nth x3 (W (x4 - 1)))) < 0), h, S.nf [true] rfl (subR rfl)⟩
       ·replace h := iteF h hb2
        refine d_region [] ([]) Tryz.mixed S rfl (by kernel_rfl) ?_;clear S;intro w9 hk4 hsel S
        refine d_rest [0, 1, 2, 3, 4, 5, 6, 7, 8, 9, 10, 11, 12, 13, 14, 15, 16] hsel (by kernel_rfl) rfl ?_
        clear hsel
        refine s_lv S rfl (Rm (S.tm rfl)) rfl ?_;clear S;intro a S
        refine s_lv S rfl (Rm (S.tm rfl)) rfl ?_;clear S;intro a S
        refine s_lv S rfl (rn_gtr (S.tm rfl) (S.tm rfl)) rfl ?_;clear S;intro a S
        refine s_lv S rfl (Rm (S.tm rfl)) rfl ?_;clear S;intro a S
        iterate 12 (refine s_skip S rfl rfl rfl rfl (neq_f hb2) rfl ?_ rfl;clear S;intro a S)
        refine s_lv S rfl (rn_pick_c hb2 (S.tm rfl) rfl) rfl ?_;clear S;intro a S
        refine s_done ?_
        replace S := S.nk [.own Z 39 11 x3.length (x3.flatMap GDeed.enc)] [(0, Z), (1, iV Aq), (2, iV Ar), (3, .func (.func 20) #[] #[]), (8, iV x2), (9, iV x4), (34, bV false)] [true] rfl (subR rfl)
        refine Tn ?_
        exact ⟨false, h, S.nf [true] rfl (subR rfl)⟩
      clear S h;rintro a w5 ⟨x5, h, S⟩;rw [hj3] at h;clear hj3 j3
      refine Tn (f_cond (S.tm rfl) (fun hb3 => ?_) (fun hb3 => ?_))
      ·replace h := iteT h hb3
       refine wp_skip (Tn (Fs (wp_block ?_)))
       obtain ⟨hc3, h⟩ := chkE h
       obtain ⟨hc4, h⟩ := chkE h
       obtain ⟨hc5, h⟩ := chkE h
       obtain ⟨hc6, h⟩ := chkE h
       refine d_region [15, 17] ([]) Tryz.mixed S rfl (by kernel_rfl) ?_;clear S;intro w14 hk9 hsel S
       refine d_pure 0 S hsel rfl rfl (by kernel_rfl) (by kernel_rfl) rfl (fun _ => (Rm (S.tm rfl))) ?_;clear S;intro a S
       refine d_pure 1 S hsel rfl rfl (by kernel_rfl) (by kernel_rfl) rfl (fun _ => (Rm (S.tm rfl))) ?_;clear S;intro a S
       refine d_pure 2 S hsel rfl rfl (by kernel_rfl) (by kernel_rfl) rfl (fun _ => (Rm (S.tm rfl))) ?_;clear S;intro a S
       refine d_pure 3 S hsel rfl rfl (by kernel_rfl) (by kernel_rfl) rfl (fun _ => (Rm (S.tm rfl))) ?_;clear S;intro a S
       refine d_pure 4 S hsel rfl rfl (by kernel_rfl) (by kernel_rfl) rfl (fun _ => (rn_sub (S.tm rfl) rfl)) ?_;clear S;intro a S
       refine d_pure 5 S hsel rfl rfl (by kernel_rfl) (by kernel_rfl) rfl (fun _ => (Rm (S.tm rfl))) ?_;clear S;intro a S
       refine d_pure 6 S hsel rfl rfl (by kernel_rfl) (by kernel_rfl) rfl (fun _ => (Rm (S.tm rfl))) ?_;clear S;intro a S
       refine d_pure 7 S hsel rfl rfl (by kernel_rfl) (by kernel_rfl) rfl (fun _ => (rn_sub (S.tm rfl) rfl)) ?_;clear S;intro a S
       obtain ⟨b9, hg9, hr9⟩ := rn_indexS (a := a) (x := .tmp 42) (y := .tmp 44) (ty := 0) sl_26 GDeed.enc_ok S (i := 0) rfl (inB_get hc3).1 (inB_get hc3).2 (S.tm rfl) (S.tm rfl)
       refine d_pure 8 S hsel rfl rfl (by kernel_rfl) (by kernel_rfl) rfl (fun _ => (hr9 _)) ?_;clear S;intro a S
       clear hr9
       refine d_quiet 9 S hsel rfl (by kernel_rfl) (by kernel_rfl) (by kernel_rfl) (by kernel_rfl) rfl (fun _ hw => (rn_ldA Tryz.isAgg39 Tryz.sizeOf39 (off := ((W (x4 - 1)).toNat) * 11) (o := 0) (part := (GDeed.enc (nth x3 (W (x4 - 1))))) rfl rfl (S.tm rfl) ((own_mem GDeed.enc_ok S (i := 0) rfl hg9 (inB_get hc3).1 (ne_nil (e' := .own Z 39 11 x3.length (x3.flatMap GDeed.enc)))).kept hw))) ?_;clear S;intro a S
       refine d_pure 10 S hsel rfl rfl (by kernel_rfl) (by kernel_rfl) rfl (fun _ => (Rm (S.tm rfl))) ?_;clear S;intro a S
       refine d_pure 11 S hsel rfl rfl (by kernel_rfl) (by kernel_rfl) rfl (fun _ => (Rm (S.tm rfl))) ?_;clear S;intro a S
       obtain ⟨b10, hg10, hr10⟩ := rn_indexS (a := a) (x := .tmp 47) (y := .tmp 48) (ty := 0) sl_26 GDeed.enc_ok S (i := 0) rfl (inB_get hc4).1 (inB_get hc4).2 (S.tm rfl) (S.tm rfl)
       refine d_pure 12 S hsel rfl rfl (by kernel_rfl) (by kernel_rfl) rfl (fun _ => (hr10 _)) ?_;clear S;intro a S
       clear hr10
       refine d_quiet 13 S hsel rfl (by kernel_rfl) (by kernel_rfl) (by kernel_rfl) (by kernel_rfl) rfl (fun _ hw => (rn_ldA Tryz.isAgg39 Tryz.sizeOf39 (off := x4.toNat * 11) (o := 0) (part := (GDeed.enc (nth x3 x4))) rfl rfl (S.tm rfl) ((own_mem GDeed.enc_ok S (i := 0) rfl hg10 (inB_get hc4).1 (ne_nil (e' := .own Z 39 11 x3.length (x3.flatMap GDeed.enc)))).kept hw))) ?_;clear S;intro a S
       obtain ⟨b11, hg11, hr11⟩ := rn_indexS (a := a) (x := .tmp 37) (y := .tmp 38) (ty := 0) sl_26 GDeed.enc_ok S (i := 0) rfl (inB_get hc5).1 (inB_get hc5).2 (S.tm rfl) (S.tm rfl)
       refine d_pure 14 S hsel rfl rfl (by kernel_rfl) (by kernel_rfl) rfl (fun _ => (hr11 _)) ?_;clear S;intro a S
       clear hr11
       refine d_loudB 15 (Z.ownBlock.toList) rfl (by kernel_rfl) rfl (l_storeO (c := 0) (j := x4.toNat) (nth x3 (W (x4 - 1))) GDeed.enc_ok S (S.tm rfl) (S.tm rfl) (i := 0) rfl hg11 (inB_get hc5).1 Tryz.sizeOf39 (vs := [sV ((nth x3 (W (x4 - 1))).Site), iV ((nth x3 (W (x4 - 1))).No), iV ((nth x3 (W (x4 - 1))).At), iV ((nth x3 (W (x4 - 1))).Kind), sV ((nth x3 (W (x4 - 1))).Who), sV ((nth x3 (W (x4 - 1))).Club), sV ((nth x3 (W (x4 - 1))).Race), iV ((nth x3 (W (x4 - 1))).Time), iV ((nth x3 (W (x4 - 1))).Fault), sV ((nth x3 (W (x4 - 1))).Of), iV ((nth x3 (W (x4 - 1))).Other)]) rfl rfl rfl rfl rfl ?_);clear S;intro w16 hk11 S
       refine Ld (d_nextB ?_)
       obtain ⟨b12, hg12, hr12⟩ := rn_indexS (a := a) (x := .tmp 39) (y := .tmp 41) (ty := 0) sl_26 GDeed.enc_ok S (i := 0) rfl (inB_get hc6).1 (inB_get hc6).2 (S.tm rfl) (S.tm rfl)
       refine d_quiet 16 S hsel rfl rfl rfl (by kernel_rfl) (by kernel_rfl) rfl (fun _ hw => (hr12 _)) ?_;clear S;intro a S
       clear hr12
       refine d_loud1 17 (by kernel_rfl) rfl (l_storeO (c := 0) (j := (W (x4 - 1)).toNat) (nth x3 x4) GDeed.enc_ok S (S.tm rfl) (S.tm rfl) (i := 0) rfl hg12 (inB_get hc6).1 Tryz.sizeOf39 (vs := [sV ((nth x3 x4).Site), iV ((nth x3 x4).No), iV ((nth x3 x4).At), iV ((nth x3 x4).Kind), sV ((nth x3 x4).Who), sV ((nth x3 x4).Club), sV ((nth x3 x4).Race), iV ((nth x3 x4).Time), iV ((nth x3 x4).Fault), sV ((nth x3 x4).Of), iV ((nth x3 x4).Other)]) rfl rfl rfl rfl rfl ?_);clear S;intro w18 hk13 S
       refine Ld (d_next hk13 (d_end (by kernel_rfl) ?_))
       clear hsel
       replace S := S.nk [.own Z 39 11 ((x3.set x4.toNat (nth x3 (W (x4 - 1)))).set ((W (x4 - 1)).toNat) (nth x3 x4)).length (((x3.set x4.toNat (nth x3 (W (x4 - 1)))).set ((W (x4 - 1)).toNat) (nth x3 x4)).flatMap GDeed.enc)] [(0, Z), (1, iV Aq), (2, iV Ar), (3, .func (.func 20) #[] #[]), (8, iV x2), (9, iV x4)] [true] rfl (subR rfl)
       refine blk_n (Tn (Fg (lv S (Rm (S.tm rfl)) rfl ?_)));clear S;intro a S
       refine lv S (rn_sub (S.tm rfl) rfl) rfl ?_;clear S;intro a S
       refine lv S (Ra (S.tm rfl)) rfl ?_;clear S;intro a S
       refine Ld (Tn ?_)
       exact ⟨m2, ⟨((x3.set x4.toNat (nth x3 (W (x4 - 1)))).set ((W (x4 - 1)).toNat) (nth x3 x4)), W (x4 - 1), h, S.nf [true] rfl ⟨rfl, rfl, rfl, rfl, rfl, rfl, trivial⟩⟩, Nat.lt_succ_self _⟩
      ·replace h := iteF h hb3
       refine wp_exit (then_x (then_x (x_same (Tn ?_))))
       exact ⟨x3, h, S.nf [true] rfl (subR rfl)⟩
    clear S h;rintro a w4 ⟨x3, h, S⟩;rw [hj2] at h;clear hj2 j2
    refine blk_n (Tn (Fg (lv S (Rm (S.tm rfl)) rfl ?_)));clear S;intro a S
    refine lv S (rn_add (S.tm rfl) rfl) rfl ?_;clear S;intro a S
    refine lv S (Ra (S.tm rfl)) rfl ?_;clear S;intro a S
    refine Ld (Tn ?_)
    exact ⟨m1, ⟨x3, W (x2 + 1), h, S.nf [true] rfl ⟨rfl, rfl, rfl, rfl, rfl, trivial⟩⟩, Nat.lt_succ_self _⟩
   ·replace h := iteF h hb1
    refine wp_exit (then_x (then_x (x_same (Tn ?_))))
    exact ⟨x1, h, S.nf [true] rfl trivial⟩
 clear S h;rintro a w2 ⟨x1, h, S⟩;rw [hj1] at h;clear hj1 j1
 obtain rfl := Option.some.inj h
 exact f_ret0 S Tryz.results71 ⟨(S.holds _ (List.mem_of_getElem? (i := 0) rfl)), rfl⟩
theorem slices_stableCmpFunc_Deed_tumbref2_DeedOrder_ok (w : World) (Z : Value) (As : List GDeed) (Cj : (LEnt.own Z 39 11 As.length (As.flatMap GDeed.enc)).holds w) (Be : Int) (r : (List GDeed)) (h : slices_stableCmpFunc_Deed_tumbref2_DeedOrder As Be = some r) :
    Calls Tryz.prog 50 [Z, iV Be, .func (.func 20) #[] #[]].toArray w (Ret w (Z.ownBlock.toList) fun _ v w' => (LEnt.own Z 39 11 r.length (r.flatMap GDeed.enc)).holds w' ∧ v = .tuple #[]) := by
 refine f_enter (Z.ownBlock.toList) [.own Z 39 11 As.length (As.flatMap GDeed.enc)] Tryz.func50 rfl Tryz.ntmps50 rfl (fun e he => by simp only [List.mem_singleton] at he;subst he;exact Cj) (fps_one_nodup _) (fps_one_sub _) fun a S => ?_
 unfold slices_stableCmpFunc_Deed_tumbref2_DeedOrder at h
 replace S := S.nk [.own Z 39 11 As.length (As.flatMap GDeed.enc)] [(0, Z), (1, iV Be), (2, .func (.func 20) #[] #[])] [true] rfl (subR rfl)
 refine Fs (Fg (lv S (Ra rfl) rfl ?_));clear S;intro a S
 refine Ld (Tn (Fs (Fg (lv S (Rm (S.tm rfl)) rfl ?_))));clear S;intro a S
 refine lv S (Ra rfl) rfl ?_;clear S;intro a S
 refine lv S (Ra (S.tm rfl)) rfl ?_;clear S;intro a S
 refine Ld (Tn (Fs ?_))
 replace S := S.nk [.own Z 39 11 As.length (As.flatMap GDeed.enc)] [(0, Z), (1, iV Be), (2, .func (.func 20) #[] #[]), (6, iV 20), (7, iV 0), (8, iV 20)] [true] rfl (subR rfl)
 obtain ⟨j1, hj1, h⟩ := joinE h
 refine f_join (fun a w' => ∃ x1 : List GDeed, ∃ x2 : Int, j1 x1 x2 = some r ∧ Sx w (Z.ownBlock.toList) nov [.own Z 39 11 x1.length (x1.flatMap GDeed.enc)] [(0, Z), (1, iV Be), (2, .func (.func 20) #[] #[]), (6, iV 20), (7, iV x2)] 63 a w') ?_ ?_
 ·refine wp_block (f_loop (fun (m1 : Nat) a w' => ∃ x1 : List GDeed, ∃ x2 : Int, ∃ x3 : Int, slices_stableCmpFunc_Deed_tumbref2_DeedOrder_l1 Be j1 m1 x1 x2 x3 = some r ∧ Sx w (Z.ownBlock.toList) nov [.own Z 39 11 x1.length (x1.flatMap GDeed.enc)] [(0, Z), (1, iV Be), (2, .func (.func 20) #[] #[]), (6, iV 20), (7, iV x2), (8, iV x3)] 63 a w') id ((Be - 20).toNat + 2) ⟨As, 0, 20, h, S.nf [true] rfl (subR rfl)⟩ ?_)
  clear S h;rintro m1 a w1 ⟨x1, x2, x3, h, S⟩
  cases m1 with
  | zero => rw [slices_stableCmpFunc_Deed_tumbref2_DeedOrder_l1.eq_1] at h;cases h
  | succ m1 =>
   rw [slices_stableCmpFunc_Deed_tumbref2_DeedOrder_l1.eq_2] at h
   refine Fs (Fs (Fg (lv S (Rm (S.tm rfl)) rfl ?_)));clear S;intro a S
   refine lv S (Rm (S.tm rfl)) rfl ?_;clear S;intro a S
   refine lv S (rn_leq (S.tm rfl) (S.tm rfl)) rfl ?_;clear S;intro a S
   refine Ld (Tn (f_cond (S.tm rfl) (fun hb1 => ?_) (fun hb1 => ?_)))
   ·replace h := iteT h hb1
    refine wp_skip (Tn (wp_block (Fs (Fg (lv S (Rm (S.tm rfl)) rfl ?_)))));clear S;intro a S
    iterate 3 (refine lv S (Rm (S.tm rfl)) rfl ?_;clear S;intro a S)
    obtain ⟨r1, hr1, h⟩ := bindE h
    refine l_enterO 0 S rfl (fun _ => .own Z 39 11 r1.length (r1.flatMap GDeed.enc)) (fun _ => run_call (vs := [Z, iV x2, iV x3, .func (.func 20) #[] #[]]) ⟨(S.tm rfl), (S.tm rfl), (S.tm rfl), (S.tm rfl), trivial⟩ Tryz.call71) (slices_insertionSortCmpFunc_Deed_tumbref2_DeedOrder_ok _ Z x1 (S.holds _ (List.mem_of_getElem? (i := 0) rfl)) x2 x3 _ hr1) rfl (fun _ _ _ h => ⟨h.1, fun _ hc => hc⟩) ?_;clear S;intro v1 a w3 hv1 hk1 hn1 S
    replace hv1 := hv1.2
    subst hv1
    refine Ld (Tn (Fs (Fg (lv S (Rm (S.tm rfl)) rfl ?_))));clear S;intro a S
    refine lv S (Ra (S.tm rfl)) rfl ?_;clear S;intro a S
    refine Ld ?_
    replace S := S.nk [.own Z 39 11 r1.length (r1.flatMap GDeed.enc)] [(0, Z), (1, iV Be), (2, .func (.func 20) #[] #[]), (6, iV 20), (7, iV x3), (8, iV x3)] [true] rfl (subR rfl)
    refine Tn (Fg (lv S (Rm (S.tm rfl)) rfl ?_));clear S;intro a S
    refine lv S (Rm (S.tm rfl)) rfl ?_;clear S;intro a S
    refine lv S (rn_add (S.tm rfl) (S.tm rfl)) rfl ?_;clear S;intro a S
    refine lv S (Ra (S.tm rfl)) rfl ?_;clear S;intro a S
    refine Ld (blk_n (Tn ?_))
    exact ⟨m1, ⟨r1, x3, W (x3 + 20), h, S.nf [true] rfl ⟨rfl, rfl, rfl, rfl, rfl, rfl, trivial⟩⟩, Nat.lt_succ_self _⟩
   ·replace h := iteF h hb1
    refine wp_exit (then_x (then_x (x_same (Tn ?_))))
    exact ⟨x1, x2, h, S.nf [true] rfl (subR rfl)⟩
 clear S h;rintro a w2 ⟨x1, x2, h, S⟩;rw [hj1] at h;clear hj1 j1
 refine Tn (Fs (Fg (lv S (Rm (S.tm rfl)) rfl ?_)));clear S;intro a S
 iterate 3 (refine lv S (Rm (S.tm rfl)) rfl ?_;clear S;intro a S)
 obtain ⟨r2, hr2, h⟩ := bindE h
 refine l_enterO 0 S rfl (fun _ => .own Z 39 11 r2.length (r2.flatMap GDeed.enc)) (fun _ => run_call (vs := [Z, iV x2, iV Be, .func (.func 20) #[] #[]]) ⟨(S.tm rfl), (S.tm rfl), (S.tm rfl), (S.tm rfl), trivial⟩ Tryz.call71) (slices_insertionSortCmpFunc_Deed_tumbref2_DeedOrder_ok _ Z x1 (S.holds _ (List.mem_of_getElem? (i := 0) rfl)) x2 Be _ hr2) rfl (fun _ _ _ h => ⟨h.1, fun _ hc => hc⟩) ?_;clear S;intro v2 a w4 hv2 hk2 hn2 S
 replace hv2 := hv2.2
 subst hv2
 refine Ld (Tn ?_)
 replace S := S.nk [.own Z 39 11 r2.length (r2.flatMap GDeed.enc)] [(1, iV Be), (6, iV 20)] [true] rfl (subR rfl)
 obtain ⟨j2, hj2, h⟩ := joinE h
 refine f_join (fun a w' => j2 = some r ∧ Sx w (Z.ownBlock.toList) nov [.own Z 39 11 r2.length (r2.flatMap GDeed.enc)] [] 63 a w') ?_ ?_
 ·refine wp_block (f_loop (fun (m2 : Nat) a w' => ∃ x4 : Int, slices_stableCmpFunc_Deed_tumbref2_DeedOrder_l2 Be j2 m2 x4 = some r ∧ Sx w (Z.ownBlock.toList) nov [.own Z 39 11 r2.length (r2.flatMap GDeed.enc)] [(1, iV Be), (6, iV x4)] 63 a w') id ((Be - 20).toNat + 2) ⟨20, h, S.nf [true] rfl (subR rfl)⟩ ?_)
  clear S h;rintro m2 a w5 ⟨x4, h, S⟩
  cases m2 with
  | zero => rw [slices_stableCmpFunc_Deed_tumbref2_DeedOrder_l2.eq_1] at h;cases h
  | succ m2 =>
   rw [slices_stableCmpFunc_Deed_tumbref2_DeedOrder_l2.eq_2] at h
   refine Fs (Fs (Fg (lv S (Rm (S.tm rfl)) rfl ?_)));clear S;intro a S
   refine lv S (Rm (S.tm rfl)) rfl ?_;clear S;intro a S
   refine lv S (rn_lss (S.tm rfl) (S.tm rfl)) rfl ?_;clear S;intro a S
   refine Ld (Tn (f_cond (S.tm rfl) (fun hb2 => ?_) (fun hb2 => ?_)))
   ·replace h := iteT h hb2
    refine wp_skip (Tn (wp_block (Fs (Fg (lv S (Rm (S.tm rfl)) rfl ?_)))));clear S;intro a S
    refine lv S (rn_mul rfl (S.tm rfl)) rfl ?_;clear S;intro a S
    refine lv S (Ra rfl) rfl ?_;clear S;intro a S
    refine lv S (Ra (S.tm rfl)) rfl ?_;clear S;intro a S
    refine Ld (Tn (Fs ?_))
    replace S := S.nk [.own Z 39 11 r2.length (r2.flatMap GDeed.enc)] [(1, iV Be), (6, iV x4), (7, iV 0), (8, iV (W (2 * x4)))] [true] rfl (subR rfl)
    obtain ⟨j3, hj3, h⟩ := joinE h
    refine f_join (fun a w' => ∃ x5 : Int, j3 x5 = some r ∧ Sx w (Z.ownBlock.toList) nov [.own Z 39 11 r2.length (r2.flatMap GDeed.enc)] [(1, iV Be), (6, iV x4), (7, iV x5)] 63 a w') ?_ ?_
    ·refine wp_block (f_loop (fun (m3 : Nat) a w' => ∃ x5 : Int, ∃ x6 : Int, slices_stableCmpFunc_Deed_tumbref2_DeedOrder_l3 Be j3 m3 x5 x6 = some r ∧ Sx w (Z.ownBlock.toList) nov [.own Z 39 11 r2.length (r2.flatMap GDeed.enc)] [(1, iV Be), (6, iV x4), (7, iV x5), (8, iV x6)] 63 a w') id ((Be - (W (2 * x4))).toNat + 2) ⟨0, W (2 * x4), h, S.nf [true] rfl (subR rfl)⟩ ?_)
     clear S h;rintro m3 a w7 ⟨x5, x6, h, S⟩
     cases m3 with
     | zero => rw [slices_stableCmpFunc_Deed_tumbref2_DeedOrder_l3.eq_1] at h;cases h
     | succ m3 =>
      rw [slices_stableCmpFunc_Deed_tumbref2_DeedOrder_l3.eq_2] at h
      refine Fs (Fs (Fg (lv S (Rm (S.tm rfl)) rfl ?_)));clear S;intro a S
      refine lv S (Rm (S.tm rfl)) rfl ?_;clear S;intro a S
      refine lv S (rn_leq (S.tm rfl) (S.tm rfl)) rfl ?_;clear S;intro a S
      refine Ld (Tn (f_cond (S.tm rfl) (fun hb3 => ?_) (fun hb3 => ?_)))
      ·replace h := iteT h hb3
       refine wp_skip (Tn (wp_block (Fs ?_)))
       cases h
      ·replace h := iteF h hb3
       refine wp_exit (then_x (then_x (x_same (Tn ?_))))
       exact ⟨x5, h, S.nf [true] rfl (subR rfl)⟩
    clear S h;rintro a w8 ⟨x5, h, S⟩;rw [hj3] at h;clear hj3 j3
    refine Tn (Fs (Fs (Fg (lv S (Rm (S.tm rfl)) rfl ?_))));clear S;intro a S
    refine lv S (Rm (S.tm rfl)) rfl ?_;clear S;intro a S
    refine lv S (rn_add (S.tm rfl) (S.tm rfl)) rfl ?_;clear S;intro a S
    refine lv S (Ra (S.tm rfl)) rfl ?_;clear S;intro a S
    refine Ld (Tn (Fs (Fg (lv S (Rm (S.tm rfl)) rfl ?_))));clear S;intro a S
    refine lv S (Rm (S.tm rfl)) rfl ?_;clear S;intro a S
    refine lv S (rn_lss (S.tm rfl) (S.tm rfl)) rfl ?_;clear S;intro a S
    refine Ld (Tn (f_cond (S.tm rfl) (fun hb4 => ?_) (fun hb4 => ?_)))
    ·replace h := iteT h hb4
     cases h
    ·replace h := iteF h hb4
     refine wp_skip (Tn (Fg (lv S (Rm (S.tm rfl)) rfl ?_)));clear S;intro a S
     refine lv S (rn_mul (S.tm rfl) rfl) rfl ?_;clear S;intro a S
     refine lv S (Ra (S.tm rfl)) rfl ?_;clear S;intro a S
     refine Ld (blk_n (Tn ?_))
     exact ⟨m2, ⟨W (x4 * 2), h, S.nf [true] rfl ⟨rfl, rfl, trivial⟩⟩, Nat.lt_succ_self _⟩
   ·replace h := iteF h hb2
    refine wp_exit (then_x (then_x (x_same (Tn ?_))))
    exact ⟨h, S.nf [true] rfl trivial⟩
 clear S h;rintro a w6 ⟨h, S⟩;rw [hj2] at h;clear hj2 j2
 obtain rfl := Option.some.inj h
 exact f_ret0 S Tryz.results50 ⟨(S.holds _ (List.mem_of_getElem? (i := 0) rfl)), rfl⟩
theorem slices_SortStableFunc_Deed_tumbref2_DeedOrder_ok (w : World) (Ca : Value) (V : List GDeed) (De : (LEnt.own Ca 39 11 V.length (V.flatMap GDeed.enc)).holds w) (r : (List GDeed)) (h : slices_SortStableFunc_Deed_tumbref2_DeedOrder V = some r) :
    Calls Tryz.prog 19 [Ca, .func (.func 20) #[] #[]].toArray w (Ret w (Ca.ownBlock.toList) fun _ v w' => (LEnt.own Ca 39 11 r.length (r.flatMap GDeed.enc)).holds w' ∧ v = .tuple #[]) := by
 refine f_enter (Ca.ownBlock.toList) [.own Ca 39 11 V.length (V.flatMap GDeed.enc)] Tryz.func19 rfl Tryz.ntmps19 rfl (fun e he => by simp only [List.mem_singleton] at he;subst he;exact De) (fps_one_nodup _) (fps_one_sub _) fun a S => ?_
 unfold slices_SortStableFunc_Deed_tumbref2_DeedOrder at h
 replace S := S.nk [.own Ca 39 11 V.length (V.flatMap GDeed.enc)] [(0, Ca), (1, .func (.func 20) #[] #[])] [true] rfl (subR rfl)
 refine Fg (lv S (Rm (S.tm rfl)) rfl ?_);clear S;intro a S
 refine lv S (Rm (S.tm rfl)) rfl ?_;clear S;intro a S
 refine lv S (rn_lenT sl_26 (S.tm rfl) (own_len (S.own_at (i := 0) rfl))) rfl ?_;clear S;intro a S
 refine lv S (Rm (S.tm rfl)) rfl ?_;clear S;intro a S
 obtain ⟨r1, hr1, h⟩ := bindE h
 refine l_enterO 0 S rfl (fun _ => .own Ca 39 11 r1.length (r1.flatMap GDeed.enc)) (fun _ => run_call (vs := [Ca, iV (V.length : Int), .func (.func 20) #[] #[]]) ⟨(S.tm rfl), (S.tm rfl), (S.tm rfl), trivial⟩ Tryz.call50) (slices_stableCmpFunc_Deed_tumbref2_DeedOrder_ok _ Ca V (S.holds _ (List.mem_of_getElem? (i := 0) rfl)) (V.length : Int) _ hr1) rfl (fun _ _ _ h => ⟨h.1, fun _ hc => hc⟩) ?_;clear S;intro v1 a w1 hv1 hk1 hn1 S
 replace hv1 := hv1.2
 subst hv1
 refine Ld ?_
 obtain rfl := Option.some.inj h
 exact f_ret0 S Tryz.results19 ⟨(S.holds _ (List.mem_of_getElem? (i := 0) rfl)), rfl⟩
theorem Stream_Deeds_ok (w : World) (O : Nat) (U : Value) (Ah : List Int) (Ai : Slc (view w [O]) 1 U (Ah.map eInt)) (Af : Int) (Aw : (LEnt.blk O [U, iV Af] 25).holds w) (Bc : Int) (r : (List GDeed) × Int) (h : Stream_Deeds Ah Af Bc = some r) :
    Calls Tryz.prog 4 [.pointer (some ⟨O, 0, none⟩), iV Bc].toArray w (Ret w [O] fun τ v w' => (LEnt.blk O [U, iV r.2] 25).holds w' ∧ OwnV τ 39 11 v r.1.length (r.1.flatMap GDeed.enc)) := by
 refine f_enter [O] [.blk O [U, iV Af] 25] Tryz.func4 rfl Tryz.ntmps4 rfl (fun e he => by simp only [List.mem_singleton] at he;subst he;exact Aw) (by simp [fps, LEnt.fp]) (by simp [fps, LEnt.fp]) fun a S => ?_
 unfold Stream_Deeds at h
 replace S := S.nk [.blk O [U, iV Af] 25] [(0, .pointer (some ⟨O, 0, none⟩)), (1, iV Bc)] [true] rfl (subR rfl)
 refine Fs (Fg (lv S (Ra rfl) rfl ?_));clear S;intro a S
 refine Ld (Tn (Fs (Fg (lv S (Ra rfl) rfl ?_))));clear S;intro a S
 replace S := S.nil 39 11
 refine Ld (Tn (Fs (Fg (lv S (Ra rfl) rfl ?_))));clear S;intro a S
 refine Ld (Tn (Fs (Fg (l_makeMap (κ := ByteArray) (ν := Int) S rfl Value.string (Value.int .i64) ?_))));clear S;intro a w1 b1 hz1 hk1 S
 refine lv S (Ra (S.tm rfl)) rfl ?_;clear S;intro a S
 refine Ld (Tn (Fs (Fs (Fg (lv S (Rm (S.tm rfl)) rfl ?_)))));clear S;intro a S
 refine lv S (Rm rfl) rfl ?_;clear S;intro a S
 refine Ld (Tn ?_)
 replace S := S.nk [.map b1 (ments Value.string (Value.int .i64) ([] : List (ByteArray × Int))) ([] : List (ByteArray × Int)).length, .own (.slice none 0 0) 39 11 ([] : List GDeed).length (([] : List GDeed).flatMap GDeed.enc), .blk O [U, iV Af] 25] [(0, .pointer (some ⟨O, 0, none⟩)), (5, (.slice none 0 0)), (6, iV 0), (7, .map (some b1)), (10, iV Bc), (11, iV 0)] [true, true, true] rfl (subR rfl)
 obtain ⟨j1, hj1, h⟩ := joinE h
 refine f_join (fun a w' => ∃ x1 : List (ByteArray × Int), ∃ x2 : List GDeed, ∃ x3 : Int, ∃ v1 : Value, j1 x1 x2 x3 = some r ∧ Sx w [O] nov [.map b1 (ments Value.string (Value.int .i64) x1) x1.length, .own v1 39 11 x2.length (x2.flatMap GDeed.enc), .blk O [U, iV x3] 25] [(5, v1)] 130 a w') ?_ ?_
 ·refine wp_block (f_loop (fun (m1 : Nat) a w' => ∃ x1 : List (ByteArray × Int), ∃ x2 : List GDeed, ∃ x3 : Int, ∃ x4 : Int, ∃ x5 : Int, ∃ v1 : Value, Stream_Deeds_l1 Bc Ah j1 m1 x1 x2 x3 x4 x5 = some r ∧ Sx w [O] nov [.map b1 (ments Value.string (Value.int .i64) x1) x1.length, .own v1 39 11 x2.length (x2.flatMap GDeed.enc), .blk O [U, iV x3] 25] [(0, .pointer (some ⟨O, 0, none⟩)), (5, v1), (6, iV x4), (7, .map (some b1)), (10, iV Bc), (11, iV x5)] 130 a w') id ((Bc - 0).toNat + 2) ⟨([] : List (ByteArray × Int)), ([] : List GDeed), Af, 0, 0, (.slice none 0 0), h, S.nf [true, true, true] rfl (subR rfl)⟩ ?_)
  clear S h;rintro m1 a w2 ⟨x1, x2, x3, x4, x5, v1, h, S⟩
  cases m1 with
  | zero => rw [Stream_Deeds_l1.eq_1] at h;cases h
  | succ m1 =>
   rw [Stream_Deeds_l1.eq_2] at h
   refine Fs (Fg (lv S (rn_lss (S.tm rfl) (S.tm rfl)) rfl ?_));clear S;intro a S
   refine Ld (Tn (Fs (f_cond (S.tm rfl) (fun hb1 => ?_) (fun hb1 => ?_))))
   ·replace h := iteT h hb1
    refine wp_skip (Tn (Fs (wp_block (Fs (Fg (lv S (Rm (S.tm rfl)) rfl ?_))))));clear S;intro a S
    refine lv S (Rm (S.tm rfl)) rfl ?_;clear S;intro a S
    refine l_buildSlice S Tryz.underlying22 Tryz.sizeOf3 Tryz.zeroValue3 rfl rfl (pv := [(0, iV 0), (1, iV 1), (2, iV 5)]) ⟨rfl, rfl, rfl, rfl, rfl, rfl, trivial⟩ (cs := [iV 0, iV 1, iV 5]) (by kernel_rfl) rfl ?_;clear S;intro a w4 b2 hz2 hk2 S
    obtain ⟨r1, hr1, h⟩ := bindE h
    refine l_enter1 3 S (b := O) rfl rfl (fun _ => .blk O [U, iV r1.2] 25) (fun _ => run_call (vs := [.pointer (some ⟨O, 0, none⟩), .slice (some ⟨b2, 0, none⟩) 3 3]) ⟨(S.tm rfl), (S.tm rfl), trivial⟩ Tryz.call14) (Stream_Pick_ok _ O U Ah (Ai.mono (S.le_arg (fp_sub (i := 3) (e := .blk O [U, iV x3] 25) rfl))) x3 (S.holds _ (List.mem_of_getElem? (i := 3) rfl)) (.slice (some ⟨b2, 0, none⟩) 3 3) [0, 1, 5] (lit_slcT enc_int S (i := 0) rfl rfl rfl rfl ((ne_fp (i := 3) (j := 0) (e := .blk O [U, iV x3] 25) (e' := .blk b2 [iV 0, iV 1, iV 5] 3) S rfl rfl rfl) _ rfl)) _ hr1) rfl (fun _ _ _ h => ⟨h.1, fun _ hc => by cases hc;rfl⟩) ?_;clear S;intro v2 a w5 hv1 hk3 hn1 S
    replace hv1 := hv1.2
    subst hv1
    refine lv S (rn_add (S.tm rfl) (S.tm rfl)) rfl ?_;clear S;intro a S
    refine lv S (Ra (S.tm rfl)) rfl ?_;clear S;intro a S
    refine Ld (Tn (Fs (Fg (lv S (Rm (S.tm rfl)) rfl ?_))));clear S;intro a S
    refine l_buildSlice S Tryz.underlying55 Tryz.sizeOf9 Tryz.zeroValue9 rfl rfl (pv := [(0, sV k_sa), (1, sV k_sa), (2, sV k_sb)]) ⟨rfl, rfl, rfl, rfl, rfl, rfl, trivial⟩ (cs := [sV k_sa, sV k_sa, sV k_sb]) (by kernel_rfl) rfl ?_;clear S;intro a w6 b3 hz3 hk4 S
    obtain ⟨r2, hr2, h⟩ := bindE h
    refine l_enter1 4 S (b := O) rfl rfl (fun _ => .blk O [U, iV r2.2] 25) (fun _ => run_call (vs := [.pointer (some ⟨O, 0, none⟩), .slice (some ⟨b3, 0, none⟩) 3 3]) ⟨(S.tm rfl), (S.tm rfl), trivial⟩ Tryz.call15) (Stream_Some_ok _ O U Ah (Ai.mono (S.le_arg (fp_sub (i := 4) (e := .blk O [U, iV r1.2] 25) rfl))) r1.2 (S.holds _ (List.mem_of_getElem? (i := 4) rfl)) (.slice (some ⟨b3, 0, none⟩) 3 3) [k_sa, k_sa, k_sb] (lit_slcT enc_str S (i := 0) rfl rfl rfl rfl ((ne_fp (i := 4) (j := 0) (e := .blk O [U, iV r1.2] 25) (e' := .blk b3 [sV k_sa, sV k_sa, sV k_sb] 9) S rfl rfl rfl) _ rfl)) _ hr2) rfl (fun _ _ _ h => ⟨h.1, fun _ hc => by cases hc;rfl⟩) ?_;clear S;intro v3 a w7 hv2 hk5 hn2 S
    replace hv2 := hv2.2
    subst hv2
    refine lv S (Rm (S.tm rfl)) rfl ?_;clear S;intro a S
    refine lv S (Rm (S.tm rfl)) rfl ?_;clear S;intro a S
    refine l_buildSlice S Tryz.underlying22 Tryz.sizeOf3 Tryz.zeroValue3 rfl rfl (pv := [(0, iV 1), (1, iV 1), (2, iV 1), (3, iV 3), (4, iV 3), (5, iV 3), (6, iV 2), (7, iV 4)]) ⟨rfl, rfl, rfl, rfl, rfl, rfl, rfl, rfl, rfl, rfl, rfl, rfl, rfl, rfl, rfl, rfl, trivial⟩ (cs := [iV 1, iV 1, iV 1, iV 3, iV 3, iV 3, iV 2, iV 4]) (by kernel_rfl) rfl ?_;clear S;intro a w8 b4 hz4 hk6 S
    obtain ⟨r3, hr3, h⟩ := bindE h
    refine l_enter1 5 S (b := O) rfl rfl (fun _ => .blk O [U, iV r3.2] 25) (fun _ => run_call (vs := [.pointer (some ⟨O, 0, none⟩), .slice (some ⟨b4, 0, none⟩) 8 8]) ⟨(S.tm rfl), (S.tm rfl), trivial⟩ Tryz.call14) (Stream_Pick_ok _ O U Ah (Ai.mono (S.le_arg (fp_sub (i := 5) (e := .blk O [U, iV r2.2] 25) rfl))) r2.2 (S.holds _ (List.mem_of_getElem? (i := 5) rfl)) (.slice (some ⟨b4, 0, none⟩) 8 8) [1, 1, 1, 3, 3, 3, 2, 4] (lit_slcT enc_int S (i := 0) rfl rfl rfl rfl ((ne_fp (i := 5) (j := 0) (e := .blk O [U, iV r2.2] 25) (e' := .blk b4 [iV 1, iV 1, iV 1, iV 3, iV 3, iV 3, iV 2, iV 4] 3) S rfl rfl rfl) _ rfl)) _ hr3) rfl (fun _ _ _ h => ⟨h.1, fun _ hc => by cases hc;rfl⟩) ?_;clear S;intro v4 a w9 hv3 hk7 hn3 S
    replace hv3 := hv3.2
    subst hv3
    refine lv S (rn_bld bt_39 (pv := [(0, sV r2.1), (2, iV (W (x4 + r1.1))), (3, iV r3.1)]) ⟨rfl, (S.tm rfl), rfl, (S.tm rfl), rfl, (S.tm rfl), trivial⟩ (cs := [sV r2.1, iV 0, iV (W (x4 + r1.1)), iV r3.1, sV k_empty, sV k_empty, sV k_empty, iV 0, iV 0, sV k_empty, iV 0]) (by kernel_rfl)) rfl ?_;clear S;intro a S
    refine l_alloc S Tryz.zeroValue39 (cs := [sV k_empty, iV 0, iV 0, iV 0, sV k_empty, sV k_empty, sV k_empty, iV 0, iV 0, sV k_empty, iV 0]) rfl rfl ?_;clear S;intro a w10 b5 hz5 hk8 S
    refine l_store S (S.tm rfl) (S.tm rfl) (i := 0) (off := 0) rfl Tryz.sizeOf39 (vs := (GDeed.enc (GDeed.mk r2.1 0 (W (x4 + r1.1)) r3.1 k_empty k_empty k_empty 0 0 k_empty 0))) rfl rfl rfl rfl ?_;clear S;intro w11 hk9 S
    refine Ld ?_
    replace S := S.nk [.blk b5 (GDeed.enc (GDeed.mk r2.1 0 (W (x4 + r1.1)) r3.1 k_empty k_empty k_empty 0 0 k_empty 0)) 39, .map b1 (ments Value.string (Value.int .i64) x1) x1.length, .own v1 39 11 x2.length (x2.flatMap GDeed.enc), .blk O [U, iV r3.2] 25] [(0, .pointer (some ⟨O, 0, none⟩)), (5, v1), (6, iV (W (x4 + r1.1))), (7, .map (some b1)), (8, .pointer (some ⟨b5, 0, none⟩)), (10, iV Bc), (11, iV x5)] [true, false, false, false, true, true, true] rfl (subR rfl)
    refine Tn (Fs (Fg (lv S (Rm (S.tm rfl)) rfl ?_)));clear S;intro a S
    refine lv S (rn_fld fa_39_0 (S.tm rfl)) rfl ?_;clear S;intro a S
    refine lv S (rn_load Tryz.isAgg9 (S.tm rfl) (S.cell (i := 0) rfl rfl)) rfl ?_;clear S;intro a S
    refine lv S (rn_lookup (kv := Value.string) (vv := (Value.int .i64)) (m := x1) (key := r2.1) (z := 0) (S.map_at (i := 1) rfl) Tryz.underlying42 (keyT_str Tryz.underlying9) Tryz.zeroValue3 (S.tm rfl) (S.tm rfl)) rfl ?_;clear S;intro a S
    refine lv S (rn_add (S.tm rfl) rfl) rfl ?_;clear S;intro a S
    refine l_mapUpdate (kv := Value.string) (vv := (Value.int .i64)) (m := x1) (key := r2.1) (val := W ((mgetD x1 r2.1 0) + 1)) S (i := 1) rfl Tryz.underlying42 (keyT_str Tryz.underlying9) (S.tm rfl) (S.tm rfl) (S.tm rfl) ?_;clear S;intro w12 hk10 S
    refine Ld (Tn (Fs (Fg (lv S (Rm (S.tm rfl)) rfl ?_))));clear S;intro a S
    refine lv S (rn_fld fa_39_0 (S.tm rfl)) rfl ?_;clear S;intro a S
    refine lv S (rn_load Tryz.isAgg9 (S.tm rfl) (S.cell (i := 0) rfl rfl)) rfl ?_;clear S;intro a S
    refine lv S (rn_lookup (kv := Value.string) (vv := (Value.int .i64)) (m := (mput x1 r2.1 (W ((mgetD x1 r2.1 0) + 1)))) (key := r2.1) (z := 0) (S.map_at (i := 1) rfl) Tryz.underlying42 (keyT_str Tryz.underlying9) Tryz.zeroValue3 (S.tm rfl) (S.tm rfl)) rfl ?_;clear S;intro a S
    refine lv S (rn_fld fa_39_1 (S.tm rfl)) rfl ?_;clear S;intro a S
    refine l_store S (S.tm rfl) (S.tm rfl) (i := 0) (off := 1) rfl Tryz.sizeOf3 (vs := [iV (mgetD (mput x1 r2.1 (W ((mgetD x1 r2.1 0) + 1))) r2.1 0)]) rfl rfl rfl rfl ?_;clear S;intro w13 hk11 S
    refine Ld ?_
    replace S := S.nk [.blk b5 (GDeed.enc (GDeed.mk r2.1 (mgetD (mput x1 r2.1 (W ((mgetD x1 r2.1 0) + 1))) r2.1 0) (W (x4 + r1.1)) r3.1 k_empty k_empty k_empty 0 0 k_empty 0)) 39, .map b1 (ments Value.string (Value.int .i64) (mput x1 r2.1 (W ((mgetD x1 r2.1 0) + 1)))) (mput x1 r2.1 (W ((mgetD x1 r2.1 0) + 1))).length, .own v1 39 11 x2.length (x2.flatMap GDeed.enc), .blk O [U, iV r3.2] 25] [(0, .pointer (some ⟨O, 0, none⟩)), (5, v1), (6, iV (W (x4 + r1.1))), (7, .map (some b1)), (8, .pointer (some ⟨b5, 0, none⟩)), (10, iV Bc), (11, iV x5)] [true, true, true, true] rfl (subR rfl)
    refine Tn (Fs (Fs (Fg (lv S (rn_fld fa_39_3 (S.tm rfl)) rfl ?_))));clear S;intro a S
    refine lv S (rn_load Tryz.isAgg3 (S.tm rfl) (S.cell (i := 0) rfl rfl)) rfl ?_;clear S;intro a S
    refine lv S (rn_neq (S.tm rfl) rfl) rfl ?_;clear S;intro a S
    refine Ld (Tn ?_)
    obtain ⟨j2, hj2, h⟩ := joinE h
    refine f_join (fun a w' => ∃ x6 : ByteArray, ∃ x7 : ByteArray, ∃ x8 : Int, j2 x6 x7 x8 = some r ∧ Sx w [O] nov [.blk b5 (GDeed.enc (GDeed.mk r2.1 (mgetD (mput x1 r2.1 (W ((mgetD x1 r2.1 0) + 1))) r2.1 0) (W (x4 + r1.1)) r3.1 x6 k_empty x7 0 0 k_empty 0)) 39, .map b1 (ments Value.string (Value.int .i64) (mput x1 r2.1 (W ((mgetD x1 r2.1 0) + 1)))) (mput x1 r2.1 (W ((mgetD x1 r2.1 0) + 1))).length, .own v1 39 11 x2.length (x2.flatMap GDeed.enc), .blk O [U, iV x8] 25] [(0, .pointer (some ⟨O, 0, none⟩)), (5, v1), (6, iV (W (x4 + r1.1))), (7, .map (some b1)), (8, .pointer (some ⟨b5, 0, none⟩)), (10, iV Bc), (11, iV x5)] 130 a w') ?_ ?_
    ·refine f_cond (S.tm rfl) (fun hb2 => ?_) (fun hb2 => ?_)
     ·replace h := iteT h hb2
      refine Fg (lv S (Rm (S.tm rfl)) rfl ?_);clear S;intro a S
      refine l_buildSlice S Tryz.underlying55 Tryz.sizeOf9 Tryz.zeroValue9 rfl rfl (pv := [(0, sV k_ann), (1, sV k_bea), (2, sV k_cid), (3, sV k_dan)]) ⟨rfl, rfl, rfl, rfl, rfl, rfl, rfl, rfl, trivial⟩ (cs := [sV k_ann, sV k_bea, sV k_cid, sV k_dan]) (by kernel_rfl) rfl ?_;clear S;intro a w15 b6 hz6 hk12 S
      obtain ⟨r4, hr4, h⟩ := bindE h
      refine l_enter1 4 S (b := O) rfl rfl (fun _ => .blk O [U, iV r4.2] 25) (fun _ => run_call (vs := [.pointer (some ⟨O, 0, none⟩), .slice (some ⟨b6, 0, none⟩) 4 4]) ⟨(S.tm rfl), (S.tm rfl), trivial⟩ Tryz.call15) (Stream_Some_ok _ O U Ah (Ai.mono (S.le_arg (fp_sub (i := 4) (e := .blk O [U, iV r3.2] 25) rfl))) r3.2 (S.holds _ (List.mem_of_getElem? (i := 4) rfl)) (.slice (some ⟨b6, 0, none⟩) 4 4) [k_ann, k_bea, k_cid, k_dan] (lit_slcT enc_str S (i := 0) rfl rfl rfl rfl ((ne_fp (i := 4) (j := 0) (e := .blk O [U, iV r3.2] 25) (e' := .blk b6 [sV k_ann, sV k_bea, sV k_cid, sV k_dan] 9) S rfl rfl rfl) _ rfl)) _ hr4) rfl (fun _ _ _ h => ⟨h.1, fun _ hc => by cases hc;rfl⟩) ?_;clear S;intro v5 a w16 hv4 hk13 hn4 S
      replace hv4 := hv4.2
      subst hv4
      refine lv S (Rm (S.tm rfl)) rfl ?_;clear S;intro a S
      refine l_buildSlice S Tryz.underlying55 Tryz.sizeOf9 Tryz.zeroValue9 rfl rfl (pv := [(0, sV k_ra), (1, sV k_ra), (2, sV k_rb), (3, sV k_rz)]) ⟨rfl, rfl, rfl, rfl, rfl, rfl, rfl, rfl, trivial⟩ (cs := [sV k_ra, sV k_ra, sV k_rb, sV k_rz]) (by kernel_rfl) rfl ?_;clear S;intro a w17 b7 hz7 hk14 S
      obtain ⟨r5, hr5, h⟩ := bindE h
      refine l_enter1 5 S (b := O) rfl rfl (fun _ => .blk O [U, iV r5.2] 25) (fun _ => run_call (vs := [.pointer (some ⟨O, 0, none⟩), .slice (some ⟨b7, 0, none⟩) 4 4]) ⟨(S.tm rfl), (S.tm rfl), trivial⟩ Tryz.call15) (Stream_Some_ok _ O U Ah (Ai.mono (S.le_arg (fp_sub (i := 5) (e := .blk O [U, iV r4.2] 25) rfl))) r4.2 (S.holds _ (List.mem_of_getElem? (i := 5) rfl)) (.slice (some ⟨b7, 0, none⟩) 4 4) [k_ra, k_ra, k_rb, k_rz] (lit_slcT enc_str S (i := 0) rfl rfl rfl rfl ((ne_fp (i := 5) (j := 0) (e := .blk O [U, iV r4.2] 25) (e' := .blk b7 [sV k_ra, sV k_ra, sV k_rb, sV k_rz] 9) S rfl rfl rfl) _ rfl)) _ hr5) rfl (fun _ _ _ h => ⟨h.1, fun _ hc => by cases hc;rfl⟩) ?_;clear S;intro v6 a w18 hv5 hk15 hn5 S
      replace hv5 := hv5.2
      subst hv5
      refine lv S (rn_fld fa_39_4 (S.tm rfl)) rfl ?_;clear S;intro a S
      refine l_store S (S.tm rfl) (S.tm rfl) (i := 2) (off := 4) rfl Tryz.sizeOf9 (vs := [sV r4.1]) rfl rfl rfl rfl ?_;clear S;intro w19 hk16 S
      refine lv S (rn_fld fa_39_6 (S.tm rfl)) rfl ?_;clear S;intro a S
      refine l_store S (S.tm rfl) (S.tm rfl) (i := 2) (off := 6) rfl Tryz.sizeOf9 (vs := [sV r5.1]) rfl rfl rfl rfl ?_;clear S;intro w20 hk17 S
      refine Ld ?_
      replace S := S.nk [.blk b5 (GDeed.enc (GDeed.mk r2.1 (mgetD (mput x1 r2.1 (W ((mgetD x1 r2.1 0) + 1))) r2.1 0) (W (x4 + r1.1)) r3.1 r4.1 k_empty r5.1 0 0 k_empty 0)) 39, .map b1 (ments Value.string (Value.int .i64) (mput x1 r2.1 (W ((mgetD x1 r2.1 0) + 1)))) (mput x1 r2.1 (W ((mgetD x1 r2.1 0) + 1))).length, .own v1 39 11 x2.length (x2.flatMap GDeed.enc), .blk O [U, iV r5.2] 25] [(0, .pointer (some ⟨O, 0, none⟩)), (5, v1), (6, iV (W (x4 + r1.1))), (7, .map (some b1)), (8, .pointer (some ⟨b5, 0, none⟩)), (10, iV Bc), (11, iV x5)] [false, false, true, true, true, true] rfl (subR rfl)
      refine Tn ?_
      exact ⟨r4.1, r5.1, r5.2, h, S.nf [true, true, true, true] rfl (subR rfl)⟩
     ·replace h := iteF h hb2
      refine wp_skip (Tn ?_)
      exact ⟨k_empty, k_empty, r3.2, h, S.nf [true, true, true, true] rfl (subR rfl)⟩
    clear S h;rintro a w14 ⟨x6, x7, x8, h, S⟩;rw [hj2] at h;clear hj2 j2
    refine Tn (Fs (Fs (Fg (lv S (rn_fld fa_39_3 (S.tm rfl)) rfl ?_))));clear S;intro a S
    refine lv S (rn_load Tryz.isAgg3 (S.tm rfl) (S.cell (i := 0) rfl rfl)) rfl ?_;clear S;intro a S
    refine Ld (Tn ?_)
    obtain ⟨j3, hj3, h⟩ := joinE h
    refine f_join (fun a w' => ∃ x9 : ByteArray, ∃ x10 : Int, ∃ x11 : Int, ∃ x12 : ByteArray, ∃ x13 : Int, ∃ x14 : Int, j3 x9 x10 x11 x12 x13 x14 = some r ∧ Sx w [O] nov [.blk b5 (GDeed.enc (GDeed.mk r2.1 (mgetD (mput x1 r2.1 (W ((mgetD x1 r2.1 0) + 1))) r2.1 0) (W (x4 + r1.1)) r3.1 x6 x9 x7 x10 x11 x12 x13)) 39, .map b1 (ments Value.string (Value.int .i64) (mput x1 r2.1 (W ((mgetD x1 r2.1 0) + 1)))) (mput x1 r2.1 (W ((mgetD x1 r2.1 0) + 1))).length, .own v1 39 11 x2.length (x2.flatMap GDeed.enc), .blk O [U, iV x14] 25] [(0, .pointer (some ⟨O, 0, none⟩)), (5, v1), (6, iV (W (x4 + r1.1))), (7, .map (some b1)), (8, .pointer (some ⟨b5, 0, none⟩)), (10, iV Bc), (11, iV x5)] 130 a w') ?_ ?_
    ·refine wp_block (Fs (Fg (lv S (rn_eql (S.tm rfl) rfl) rfl ?_)));clear S;intro a S
     refine lv S (Ra (S.tm rfl)) rfl ?_;clear S;intro a S
     refine Ld (Tn ?_)
     obtain ⟨j4, hj4, h⟩ := joinE h
     refine f_join (fun a w' => ∃ x15 : ByteArray, ∃ x16 : Int, ∃ x17 : Int, ∃ x18 : ByteArray, ∃ x19 : Int, ∃ x20 : Int, j4 x15 x16 x17 x18 x19 x20 = some r ∧ Sx w [O] nov [.blk b5 (GDeed.enc (GDeed.mk r2.1 (mgetD (mput x1 r2.1 (W ((mgetD x1 r2.1 0) + 1))) r2.1 0) (W (x4 + r1.1)) r3.1 x6 x15 x7 x16 x17 x18 x19)) 39, .map b1 (ments Value.string (Value.int .i64) (mput x1 r2.1 (W ((mgetD x1 r2.1 0) + 1)))) (mput x1 r2.1 (W ((mgetD x1 r2.1 0) + 1))).length, .own v1 39 11 x2.length (x2.flatMap GDeed.enc), .blk O [U, iV x20] 25] [(0, .pointer (some ⟨O, 0, none⟩)), (5, v1), (6, iV (W (x4 + r1.1))), (7, .map (some b1)), (8, .pointer (some ⟨b5, 0, none⟩)), (10, iV Bc), (11, iV x5)] 130 a w') ?_ ?_
     ·refine f_cond (S.tm rfl) (fun hb3 => ?_) (fun hb3 => ?_)
      ·replace h := iteT h hb3
       refine Fg (lv S (Rm (S.tm rfl)) rfl ?_);clear S;intro a S
       refine l_buildSlice S Tryz.underlying55 Tryz.sizeOf9 Tryz.zeroValue9 rfl rfl (pv := [(0, sV k_blue), (1, sV k_red), (2, sV k_empty)]) ⟨rfl, rfl, rfl, rfl, rfl, rfl, trivial⟩ (cs := [sV k_blue, sV k_red, sV k_empty]) (by kernel_rfl) rfl ?_;clear S;intro a w23 b8 hz8 hk18 S
       obtain ⟨r6, hr6, h⟩ := bindE h
       refine l_enter1 4 S (b := O) rfl rfl (fun _ => .blk O [U, iV r6.2] 25) (fun _ => run_call (vs := [.pointer (some ⟨O, 0, none⟩), .slice (some ⟨b8, 0, none⟩) 3 3]) ⟨(S.tm rfl), (S.tm rfl), trivial⟩ Tryz.call15) (Stream_Some_ok _ O U Ah (Ai.mono (S.le_arg (fp_sub (i := 4) (e := .blk O [U, iV x8] 25) rfl))) x8 (S.holds _ (List.mem_of_getElem? (i := 4) rfl)) (.slice (some ⟨b8, 0, none⟩) 3 3) [k_blue, k_red, k_empty] (lit_slcT enc_str S (i := 0) rfl rfl rfl rfl ((ne_fp (i := 4) (j := 0) (e := .blk O [U, iV x8] 25) (e' := .blk b8 [sV k_blue, sV k_red, sV k_empty] 9) S rfl rfl rfl) _ rfl)) _ hr6) rfl (fun _ _ _ h => ⟨h.1, fun _ hc => by cases hc;rfl⟩) ?_;clear S;intro v7 a w24 hv6 hk19 hn6 S
       replace hv6 := hv6.2
       subst hv6
       refine lv S (Rm (S.tm rfl)) rfl ?_;clear S;intro a S
       refine l_buildSlice S Tryz.underlying22 Tryz.sizeOf3 Tryz.zeroValue3 rfl rfl (pv := [(0, iV 0), (1, iV 5900), (2, iV 6000), (3, iV 7000)]) ⟨rfl, rfl, rfl, rfl, rfl, rfl, rfl, rfl, trivial⟩ (cs := [iV 0, iV 5900, iV 6000, iV 7000]) (by kernel_rfl) rfl ?_;clear S;intro a w25 b9 hz9 hk20 S
       obtain ⟨r7, hr7, h⟩ := bindE h
       refine l_enter1 5 S (b := O) rfl rfl (fun _ => .blk O [U, iV r7.2] 25) (fun _ => run_call (vs := [.pointer (some ⟨O, 0, none⟩), .slice (some ⟨b9, 0, none⟩) 4 4]) ⟨(S.tm rfl), (S.tm rfl), trivial⟩ Tryz.call14) (Stream_Pick_ok _ O U Ah (Ai.mono (S.le_arg (fp_sub (i := 5) (e := .blk O [U, iV r6.2] 25) rfl))) r6.2 (S.holds _ (List.mem_of_getElem? (i := 5) rfl)) (.slice (some ⟨b9, 0, none⟩) 4 4) [0, 5900, 6000, 7000] (lit_slcT enc_int S (i := 0) rfl rfl rfl rfl ((ne_fp (i := 5) (j := 0) (e := .blk O [U, iV r6.2] 25) (e' := .blk b9 [iV 0, iV 5900, iV 6000, iV 7000] 3) S rfl rfl rfl) _ rfl)) _ hr7) rfl (fun _ _ _ h => ⟨h.1, fun _ hc => by cases hc;rfl⟩) ?_;clear S;intro v8 a w26 hv7 hk21 hn7 S
       replace hv7 := hv7.2
       subst hv7
       refine lv S (rn_fld fa_39_5 (S.tm rfl)) rfl ?_;clear S;intro a S
       refine l_store S (S.tm rfl) (S.tm rfl) (i := 2) (off := 5) rfl Tryz.sizeOf9 (vs := [sV r6.1]) rfl rfl rfl rfl ?_;clear S;intro w27 hk22 S
       refine lv S (rn_fld fa_39_7 (S.tm rfl)) rfl ?_;clear S;intro a S
       refine l_store S (S.tm rfl) (S.tm rfl) (i := 2) (off := 7) rfl Tryz.sizeOf3 (vs := [iV r7.1]) rfl rfl rfl rfl ?_;clear S;intro w28 hk23 S
       refine Ld ?_
       replace S := S.nk [.blk b5 (GDeed.enc (GDeed.mk r2.1 (mgetD (mput x1 r2.1 (W ((mgetD x1 r2.1 0) + 1))) r2.1 0) (W (x4 + r1.1)) r3.1 x6 r6.1 x7 r7.1 0 k_empty 0)) 39, .map b1 (ments Value.string (Value.int .i64) (mput x1 r2.1 (W ((mgetD x1 r2.1 0) + 1)))) (mput x1 r2.1 (W ((mgetD x1 r2.1 0) + 1))).length, .own v1 39 11 x2.length (x2.flatMap GDeed.enc), .blk O [U, iV r7.2] 25] [(0, .pointer (some ⟨O, 0, none⟩)), (5, v1), (6, iV (W (x4 + r1.1))), (7, .map (some b1)), (8, .pointer (some ⟨b5, 0, none⟩)), (10, iV Bc), (11, iV x5)] [false, false, true, true, true, true] rfl (subR rfl)
       refine Tn ?_
       exact ⟨r6.1, r7.1, 0, k_empty, 0, r7.2, h, S.nf [true, true, true, true] rfl (subR rfl)⟩
      ·replace h := iteF h hb3
       refine Fs (Fg (lv S (rn_eql (S.tm rfl) rfl) rfl ?_));clear S;intro a S
       refine lv S (Ra (S.tm rfl)) rfl ?_;clear S;intro a S
       refine Ld (Tn ?_)
       obtain ⟨j5, hj5, h⟩ := joinE h
       refine f_join (fun a w' => ∃ x21 : Int, ∃ x22 : Int, ∃ x23 : ByteArray, ∃ x24 : Int, ∃ x25 : Int, j5 x21 x22 x23 x24 x25 = some r ∧ Sx w [O] nov [.blk b5 (GDeed.enc (GDeed.mk r2.1 (mgetD (mput x1 r2.1 (W ((mgetD x1 r2.1 0) + 1))) r2.1 0) (W (x4 + r1.1)) r3.1 x6 k_empty x7 x21 x22 x23 x24)) 39, .map b1 (ments Value.string (Value.int .i64) (mput x1 r2.1 (W ((mgetD x1 r2.1 0) + 1)))) (mput x1 r2.1 (W ((mgetD x1 r2.1 0) + 1))).length, .own v1 39 11 x2.length (x2.flatMap GDeed.enc), .blk O [U, iV x25] 25] [(0, .pointer (some ⟨O, 0, none⟩)), (5, v1), (6, iV (W (x4 + r1.1))), (7, .map (some b1)), (8, .pointer (some ⟨b5, 0, none⟩)), (10, iV Bc), (11, iV x5)] 130 a w') ?_ ?_
       ·refine f_cond (S.tm rfl) (fun hb4 => ?_) (fun hb4 => ?_)
        ·replace h := iteT h hb4
         refine Fg (lv S (Rm (S.tm rfl)) rfl ?_);clear S;intro a S
         refine l_buildSlice S Tryz.underlying22 Tryz.sizeOf3 Tryz.zeroValue3 rfl rfl (pv := [(0, iV 0), (1, iV 5900), (2, iV 5900), (3, iV 6000), (4, iV 6100)]) ⟨rfl, rfl, rfl, rfl, rfl, rfl, rfl, rfl, rfl, rfl, trivial⟩ (cs := [iV 0, iV 5900, iV 5900, iV 6000, iV 6100]) (by kernel_rfl) rfl ?_;clear S;intro a w30 b10 hz10 hk24 S
         obtain ⟨r8, hr8, h⟩ := bindE h
         refine l_enter1 4 S (b := O) rfl rfl (fun _ => .blk O [U, iV r8.2] 25) (fun _ => run_call (vs := [.pointer (some ⟨O, 0, none⟩), .slice (some ⟨b10, 0, none⟩) 5 5]) ⟨(S.tm rfl), (S.tm rfl), trivial⟩ Tryz.call14) (Stream_Pick_ok _ O U Ah (Ai.mono (S.le_arg (fp_sub (i := 4) (e := .blk O [U, iV x8] 25) rfl))) x8 (S.holds _ (List.mem_of_getElem? (i := 4) rfl)) (.slice (some ⟨b10, 0, none⟩) 5 5) [0, 5900, 5900, 6000, 6100] (lit_slcT enc_int S (i := 0) rfl rfl rfl rfl ((ne_fp (i := 4) (j := 0) (e := .blk O [U, iV x8] 25) (e' := .blk b10 [iV 0, iV 5900, iV 5900, iV 6000, iV 6100] 3) S rfl rfl rfl) _ rfl)) _ hr8) rfl (fun _ _ _ h => ⟨h.1, fun _ hc => by cases hc;rfl⟩) ?_;clear S;intro v9 a w31 hv8 hk25 hn8 S
         replace hv8 := hv8.2
         subst hv8
         refine lv S (Rm (S.tm rfl)) rfl ?_;clear S;intro a S
         refine l_buildSlice S Tryz.underlying22 Tryz.sizeOf3 Tryz.zeroValue3 rfl rfl (pv := [(0, iV 0), (1, iV 0), (2, iV 0), (3, iV 0), (4, iV 3)]) ⟨rfl, rfl, rfl, rfl, rfl, rfl, rfl, rfl, rfl, rfl, trivial⟩ (cs := [iV 0, iV 0, iV 0, iV 0, iV 3]) (by kernel_rfl) rfl ?_;clear S;intro a w32 b11 hz11 hk26 S
         obtain ⟨r9, hr9, h⟩ := bindE h
         refine l_enter1 5 S (b := O) rfl rfl (fun _ => .blk O [U, iV r9.2] 25) (fun _ => run_call (vs := [.pointer (some ⟨O, 0, none⟩), .slice (some ⟨b11, 0, none⟩) 5 5]) ⟨(S.tm rfl), (S.tm rfl), trivial⟩ Tryz.call14) (Stream_Pick_ok _ O U Ah (Ai.mono (S.le_arg (fp_sub (i := 5) (e := .blk O [U, iV r8.2] 25) rfl))) r8.2 (S.holds _ (List.mem_of_getElem? (i := 5) rfl)) (.slice (some ⟨b11, 0, none⟩) 5 5) [0, 0, 0, 0, 3] (lit_slcT enc_int S (i := 0) rfl rfl rfl rfl ((ne_fp (i := 5) (j := 0) (e := .blk O [U, iV r8.2] 25) (e' := .blk b11 [iV 0, iV 0, iV 0, iV 0, iV 3] 3) S rfl rfl rfl) _ rfl)) _ hr9) rfl (fun _ _ _ h => ⟨h.1, fun _ hc => by cases hc;rfl⟩) ?_;clear S;intro v10 a w33 hv9 hk27 hn9 S
         replace hv9 := hv9.2
         subst hv9
         refine lv S (rn_fld fa_39_7 (S.tm rfl)) rfl ?_;clear S;intro a S
         refine l_store S (S.tm rfl) (S.tm rfl) (i := 2) (off := 7) rfl Tryz.sizeOf3 (vs := [iV r8.1]) rfl rfl rfl rfl ?_;clear S;intro w34 hk28 S
         refine lv S (rn_fld fa_39_8 (S.tm rfl)) rfl ?_;clear S;intro a S
         refine l_store S (S.tm rfl) (S.tm rfl) (i := 2) (off := 8) rfl Tryz.sizeOf3 (vs := [iV r9.1]) rfl rfl rfl rfl ?_;clear S;intro w35 hk29 S
         refine Ld ?_
         replace S := S.nk [.blk b5 (GDeed.enc (GDeed.mk r2.1 (mgetD (mput x1 r2.1 (W ((mgetD x1 r2.1 0) + 1))) r2.1 0) (W (x4 + r1.1)) r3.1 x6 k_empty x7 r8.1 r9.1 k_empty 0)) 39, .map b1 (ments Value.string (Value.int .i64) (mput x1 r2.1 (W ((mgetD x1 r2.1 0) + 1)))) (mput x1 r2.1 (W ((mgetD x1 r2.1 0) + 1))).length, .own v1 39 11 x2.length (x2.flatMap GDeed.enc), .blk O [U, iV r9.2] 25] [(0, .pointer (some ⟨O, 0, none⟩)), (5, v1), (6, iV (W (x4 + r1.1))), (7, .map (some b1)), (8, .pointer (some ⟨b5, 0, none⟩)), (10, iV Bc), (11, iV x5)] [false, false, true, true, true, true] rfl (subR rfl)
         refine Tn ?_
         exact ⟨r8.1, r9.1, k_empty, 0, r9.2, h, S.nf [true, true, true, true] rfl (subR rfl)⟩
        ·replace h := iteF h hb4
         refine Fs (Fg (lv S (rn_eql (S.tm rfl) rfl) rfl ?_));clear S;intro a S
         refine lv S (Ra (S.tm rfl)) rfl ?_;clear S;intro a S
         refine Ld ?_
         replace S := S.nk [.blk b5 (GDeed.enc (GDeed.mk r2.1 (mgetD (mput x1 r2.1 (W ((mgetD x1 r2.1 0) + 1))) r2.1 0) (W (x4 + r1.1)) r3.1 x6 k_empty x7 0 0 k_empty 0)) 39, .map b1 (ments Value.string (Value.int .i64) (mput x1 r2.1 (W ((mgetD x1 r2.1 0) + 1)))) (mput x1 r2.1 (W ((mgetD x1 r2.1 0) + 1))).length, .own v1 39 11 x2.length (x2.flatMap GDeed.enc), .blk O [U, iV x8] 25] [(0, .pointer (some ⟨O, 0, none⟩)), (5, v1), (6, iV (W (x4 + r1.1))), (7, .map (some b1)), (8, .pointer (some ⟨b5, 0, none⟩)), (10, iV Bc), (11, iV x5), (69, bV (decide (r3.1 = 4)))] [true, true, true, true] rfl (subR rfl)
         refine Tn ?_
         obtain ⟨j6, hj6, h⟩ := joinE h
         refine f_join (fun a w' => ∃ x26 : ByteArray, ∃ x27 : Int, ∃ x28 : Int, j6 x26 x27 x28 = some r ∧ Sx w [O] nov [.blk b5 (GDeed.enc (GDeed.mk r2.1 (mgetD (mput x1 r2.1 (W ((mgetD x1 r2.1 0) + 1))) r2.1 0) (W (x4 + r1.1)) r3.1 x6 k_empty x7 0 0 x26 x27)) 39, .map b1 (ments Value.string (Value.int .i64) (mput x1 r2.1 (W ((mgetD x1 r2.1 0) + 1)))) (mput x1 r2.1 (W ((mgetD x1 r2.1 0) + 1))).length, .own v1 39 11 x2.length (x2.flatMap GDeed.enc), .blk O [U, iV x28] 25] [(0, .pointer (some ⟨O, 0, none⟩)), (5, v1), (6, iV (W (x4 + r1.1))), (7, .map (some b1)), (8, .pointer (some ⟨b5, 0, none⟩)), (10, iV Bc), (11, iV x5)] 130 a w') ?_ ?_
         ·refine f_cond (S.tm rfl) (fun hb5 => ?_) (fun hb5 => ?_)
          ·replace h := iteT h hb5
           obtain ⟨r10, hr10, h⟩ := bindE h
           obtain ⟨r11, hr11, h⟩ := bindE h
           refine d_region [] ([O] ++ [b5]) Tryz.mixed S rfl (by kernel_rfl) ?_;clear S;intro w42 hk35 hsel S
           refine d_quiet 0 S hsel rfl rfl rfl (by kernel_rfl) (by kernel_rfl) rfl (fun _ hw => (Rm (S.tm rfl))) ?_;clear S;intro a S
           refine d_quiet 3 S hsel rfl rfl rfl (by kernel_rfl) (by kernel_rfl) rfl (fun _ hw => (Rm (S.tm rfl))) ?_;clear S;intro a S
           refine d_quiet 4 S hsel rfl rfl rfl (by kernel_rfl) (by kernel_rfl) rfl (fun _ hw => (Rm (S.tm rfl))) ?_;clear S;intro a S
           refine d_quiet 5 S hsel rfl rfl rfl (by kernel_rfl) (by kernel_rfl) rfl (fun _ hw => (rn_lookup (kv := Value.string) (vv := (Value.int .i64)) (m := (mput x1 r2.1 (W ((mgetD x1 r2.1 0) + 1)))) (key := k_sa) (z := 0) (S.map_kept (i := 1) rfl (ne_app (ne_fp (i := 3) (j := 1) (e := .blk O [U, iV x8] 25) (e' := .map b1 (ments Value.string (Value.int .i64) (mput x1 r2.1 (W ((mgetD x1 r2.1 0) + 1)))) (mput x1 r2.1 (W ((mgetD x1 r2.1 0) + 1))).length) S rfl rfl rfl) (ne_fp (i := 0) (j := 1) (e := .blk b5 (GDeed.enc (GDeed.mk r2.1 (mgetD (mput x1 r2.1 (W ((mgetD x1 r2.1 0) + 1))) r2.1 0) (W (x4 + r1.1)) r3.1 x6 k_empty x7 0 0 k_empty 0)) 39) (e' := .map b1 (ments Value.string (Value.int .i64) (mput x1 r2.1 (W ((mgetD x1 r2.1 0) + 1)))) (mput x1 r2.1 (W ((mgetD x1 r2.1 0) + 1))).length) S rfl rfl rfl)) hw) Tryz.underlying42 (keyT_str Tryz.underlying9) Tryz.zeroValue3 (S.tm rfl) rfl)) ?_;clear S;intro a S
           refine d_quiet 6 S hsel rfl rfl rfl (by kernel_rfl) (by kernel_rfl) rfl (fun _ hw => (rn_max2 rfl (S.tm rfl))) ?_;clear S;intro a S
           refine d_loud1 1 (by kernel_rfl) rfl (l_buildSlice S Tryz.underlying55 Tryz.sizeOf9 Tryz.zeroValue9 rfl rfl (pv := [(0, sV k_sa), (1, sV k_sa), (2, sV k_sb)]) ⟨rfl, rfl, rfl, rfl, rfl, rfl, trivial⟩ (cs := [sV k_sa, sV k_sa, sV k_sb]) (by kernel_rfl) rfl ?_);clear S;intro a w43 b13 hz13 hk36 S
           refine Ld (d_next (Keep.none hk36) (d_loud1 2 (by kernel_rfl) rfl ?_))
           refine l_enter1 4 S (b := O) rfl rfl (fun _ => .blk O [U, iV r10.2] 25) (fun _ => run_call (vs := [.pointer (some ⟨O, 0, none⟩), .slice (some ⟨b13, 0, none⟩) 3 3]) ⟨(S.tm rfl), (S.tm rfl), trivial⟩ Tryz.call15) (Stream_Some_ok _ O U Ah (Ai.mono (S.le_arg (fp_sub (i := 4) (e := .blk O [U, iV x8] 25) rfl))) x8 (S.holds _ (List.mem_of_getElem? (i := 4) rfl)) (.slice (some ⟨b13, 0, none⟩) 3 3) [k_sa, k_sa, k_sb] (lit_slcT enc_str S (i := 0) rfl rfl rfl rfl ((ne_fp (i := 4) (j := 0) (e := .blk O [U, iV x8] 25) (e' := .blk b13 [sV k_sa, sV k_sa, sV k_sb] 9) S rfl rfl rfl) _ rfl)) _ hr10) rfl (fun _ _ _ h => ⟨h.1, fun _ hc => by cases hc;rfl⟩) ?_;clear S;intro v13 a w44 hv12 hk37 hn12 S
           replace hv12 := hv12.2
           subst hv12
           refine Ld ?_
           refine d_next (hk37.sub (by intro y hy;simp at hy ⊢;simp [hy])) ?_
           refine d_quiet 8 S hsel rfl rfl rfl (by kernel_rfl) (by kernel_rfl) rfl (fun _ hw => (rn_fld fa_39_9 (S.tm rfl))) ?_;clear S;intro a S
           refine d_loud1 7 (by kernel_rfl) rfl ?_
           refine l_enter1 4 S (b := O) rfl rfl (fun _ => .blk O [U, iV r11.2] 25) (fun _ => run_call (vs := [.pointer (some ⟨O, 0, none⟩), iV 1, iV (imax 1 (mgetD (mput x1 r2.1 (W ((mgetD x1 r2.1 0) + 1))) k_sa 0))]) ⟨(S.tm rfl), rfl, (S.tm rfl), trivial⟩ Tryz.call5) (Stream_Range_ok _ O U Ah (Ai.mono (S.le_arg (fp_sub (i := 4) (e := .blk O [U, iV r10.2] 25) rfl))) r10.2 (S.holds _ (List.mem_of_getElem? (i := 4) rfl)) 1 (imax 1 (mgetD (mput x1 r2.1 (W ((mgetD x1 r2.1 0) + 1))) k_sa 0)) _ hr11) rfl (fun _ _ _ h => ⟨h.1, fun _ hc => by cases hc;rfl⟩) ?_;clear S;intro v14 a w45 hv13 hk38 hn13 S
           replace hv13 := hv13.2
           subst hv13
           refine Ld ?_
           refine d_next (hk38.sub (by intro y hy;simp at hy ⊢;simp [hy])) ?_
           refine d_loud1 9 (by kernel_rfl) rfl (l_store S (S.tm rfl) (S.tm rfl) (i := 1) (off := 9) rfl Tryz.sizeOf9 (vs := [sV r10.1]) rfl rfl rfl rfl ?_);clear S;intro w46 hk39 S
           refine Ld ?_
           refine d_next (hk39.sub (by intro y hy;simp at hy ⊢;simp [hy])) ?_
           refine d_quiet 10 S hsel rfl rfl rfl (by kernel_rfl) (by kernel_rfl) rfl (fun _ hw => (rn_fld fa_39_10 (S.tm rfl))) ?_;clear S;intro a S
           refine d_loud1 11 (by kernel_rfl) rfl (l_store S (S.tm rfl) (S.tm rfl) (i := 1) (off := 10) rfl Tryz.sizeOf3 (vs := [iV r11.1]) rfl rfl rfl rfl ?_);clear S;intro w47 hk40 S
           refine Ld ?_
           refine d_next (hk40.sub (by intro y hy;simp at hy ⊢;simp [hy])) ?_
           refine d_end (by kernel_rfl) ?_
           clear hsel
           replace S := S.nk [.blk b5 (GDeed.enc (GDeed.mk r2.1 (mgetD (mput x1 r2.1 (W ((mgetD x1 r2.1 0) + 1))) r2.1 0) (W (x4 + r1.1)) r3.1 x6 k_empty x7 0 0 r10.1 r11.1)) 39, .map b1 (ments Value.string (Value.int .i64) (mput x1 r2.1 (W ((mgetD x1 r2.1 0) + 1)))) (mput x1 r2.1 (W ((mgetD x1 r2.1 0) + 1))).length, .own v1 39 11 x2.length (x2.flatMap GDeed.enc), .blk O [U, iV r11.2] 25] [(0, .pointer (some ⟨O, 0, none⟩)), (5, v1), (6, iV (W (x4 + r1.1))), (7, .map (some b1)), (8, .pointer (some ⟨b5, 0, none⟩)), (10, iV Bc), (11, iV x5)] [false, true, true, true, true] rfl (subR rfl)
           refine Tn ?_
           exact ⟨r10.1, r11.1, r11.2, h, S.nf [true, true, true, true] rfl (subR rfl)⟩
          ·replace h := iteF h hb5
           refine wp_skip (Tn ?_)
           exact ⟨k_empty, 0, x8, h, S.nf [true, true, true, true] rfl (subR rfl)⟩
         clear S h;rintro a w36 ⟨x26, x27, x28, h, S⟩;rw [hj6] at h;clear hj6 j6
         refine Tn ?_
         exact ⟨0, 0, x26, x27, x28, h, S.nf [true, true, true, true] rfl (subR rfl)⟩
       clear S h;rintro a w29 ⟨x21, x22, x23, x24, x25, h, S⟩;rw [hj5] at h;clear hj5 j5
       refine Tn ?_
       exact ⟨k_empty, x21, x22, x23, x24, x25, h, S.nf [true, true, true, true] rfl (subR rfl)⟩
     clear S h;rintro a w22 ⟨x15, x16, x17, x18, x19, x20, h, S⟩;rw [hj4] at h;clear hj4 j4
     refine blk_n (Tn ?_)
     exact ⟨x15, x16, x17, x18, x19, x20, h, S.nf [true, true, true, true] rfl (subR rfl)⟩
    clear S h;rintro a w21 ⟨x9, x10, x11, x12, x13, x14, h, S⟩;rw [hj3] at h;clear hj3 j3
    refine Tn (Fs (Fs (Fg (lv S (Rm (S.tm rfl)) rfl ?_))));clear S;intro a S
    obtain ⟨r12, hr12, h⟩ := bindE h
    refine l_enter1 3 S (b := O) rfl rfl (fun _ => .blk O [U, iV r12.2] 25) (fun _ => run_call (vs := [.pointer (some ⟨O, 0, none⟩), iV 100]) ⟨(S.tm rfl), rfl, trivial⟩ Tryz.call16) (Stream_Flip_ok _ O U Ah (Ai.mono (S.le_arg (fp_sub (i := 3) (e := .blk O [U, iV x14] 25) rfl))) x14 (S.holds _ (List.mem_of_getElem? (i := 3) rfl)) 100 _ hr12) rfl (fun _ _ _ h => ⟨h.1, fun _ hc => by cases hc;rfl⟩) ?_;clear S;intro v15 a w48 hv14 hk41 hn14 S
    replace hv14 := hv14.2
    subst hv14
    refine Ld (Tn ?_)
    obtain ⟨j7, hj7, h⟩ := joinE h
    refine f_join (fun a w' => ∃ x29 : ByteArray, ∃ x30 : Int, ∃ x31 : Int, ∃ x32 : ByteArray, ∃ x33 : ByteArray, ∃ x34 : ByteArray, ∃ x35 : Int, ∃ x36 : Int, ∃ x37 : Int, ∃ x38 : Int, j7 x29 x30 x31 x32 x33 x34 x35 x36 x37 x38 = some r ∧ Sx w [O] nov [.blk b5 (GDeed.enc (GDeed.mk x29 x30 (W (x4 + r1.1)) x31 x32 x33 x34 x35 x36 x12 x37)) 39, .map b1 (ments Value.string (Value.int .i64) (mput x1 r2.1 (W ((mgetD x1 r2.1 0) + 1)))) (mput x1 r2.1 (W ((mgetD x1 r2.1 0) + 1))).length, .own v1 39 11 x2.length (x2.flatMap GDeed.enc), .blk O [U, iV x38] 25] [(0, .pointer (some ⟨O, 0, none⟩)), (5, v1), (6, iV (W (x4 + r1.1))), (7, .map (some b1)), (8, .pointer (some ⟨b5, 0, none⟩)), (10, iV Bc), (11, iV x5)] 130 a w') ?_ ?_
    ·refine f_cond (S.tm rfl) (fun hb6 => ?_) (fun hb6 => ?_)
     ·replace h := iteT h hb6
      refine Fs (Fg (lv S (Rm (S.tm rfl)) rfl ?_));clear S;intro a S
      obtain ⟨r13, hr13, h⟩ := bindE h
      refine l_enter1 3 S (b := O) rfl rfl (fun _ => .blk O [U, iV r13.2] 25) (fun _ => run_call (vs := [.pointer (some ⟨O, 0, none⟩), iV 4]) ⟨(S.tm rfl), rfl, trivial⟩ Tryz.call17) (Stream_Next_ok _ O U Ah (Ai.mono (S.le_arg (fp_sub (i := 3) (e := .blk O [U, iV r12.2] 25) rfl))) r12.2 (S.holds _ (List.mem_of_getElem? (i := 3) rfl)) 4 _ hr13) rfl (fun _ _ _ h => ⟨h.1, fun _ hc => by cases hc;rfl⟩) ?_;clear S;intro v16 a w50 hv15 hk42 hn15 S
      replace hv15 := hv15.2
      subst hv15
      refine Ld (Tn ?_)
      obtain ⟨j8, hj8, h⟩ := joinE h
      refine f_join (fun a w' => ∃ x39 : ByteArray, ∃ x40 : Int, ∃ x41 : Int, ∃ x42 : ByteArray, ∃ x43 : ByteArray, ∃ x44 : ByteArray, ∃ x45 : Int, ∃ x46 : Int, ∃ x47 : Int, ∃ x48 : Int, j8 x39 x40 x41 x42 x43 x44 x45 x46 x47 x48 = some r ∧ Sx w [O] nov [.blk b5 (GDeed.enc (GDeed.mk x39 x40 (W (x4 + r1.1)) x41 x42 x43 x44 x45 x46 x12 x47)) 39, .map b1 (ments Value.string (Value.int .i64) (mput x1 r2.1 (W ((mgetD x1 r2.1 0) + 1)))) (mput x1 r2.1 (W ((mgetD x1 r2.1 0) + 1))).length, .own v1 39 11 x2.length (x2.flatMap GDeed.enc), .blk O [U, iV x48] 25] [(0, .pointer (some ⟨O, 0, none⟩)), (5, v1), (6, iV (W (x4 + r1.1))), (7, .map (some b1)), (8, .pointer (some ⟨b5, 0, none⟩)), (10, iV Bc), (11, iV x5)] 130 a w') ?_ ?_
      ·refine wp_block (Fs (Fg (lv S (rn_eql (S.tm rfl) rfl) rfl ?_)));clear S;intro a S
       refine lv S (Ra (S.tm rfl)) rfl ?_;clear S;intro a S
       refine Ld (Tn ?_)
       obtain ⟨j9, hj9, h⟩ := joinE h
       refine f_join (fun a w' => ∃ x49 : ByteArray, ∃ x50 : Int, ∃ x51 : Int, ∃ x52 : ByteArray, ∃ x53 : ByteArray, ∃ x54 : ByteArray, ∃ x55 : Int, ∃ x56 : Int, ∃ x57 : Int, ∃ x58 : Int, j9 x49 x50 x51 x52 x53 x54 x55 x56 x57 x58 = some r ∧ Sx w [O] nov [.blk b5 (GDeed.enc (GDeed.mk x49 x50 (W (x4 + r1.1)) x51 x52 x53 x54 x55 x56 x12 x57)) 39, .map b1 (ments Value.string (Value.int .i64) (mput x1 r2.1 (W ((mgetD x1 r2.1 0) + 1)))) (mput x1 r2.1 (W ((mgetD x1 r2.1 0) + 1))).length, .own v1 39 11 x2.length (x2.flatMap GDeed.enc), .blk O [U, iV x58] 25] [(0, .pointer (some ⟨O, 0, none⟩)), (5, v1), (6, iV (W (x4 + r1.1))), (7, .map (some b1)), (8, .pointer (some ⟨b5, 0, none⟩)), (10, iV Bc), (11, iV x5)] 130 a w') ?_ ?_
       ·refine f_cond (S.tm rfl) (fun hb7 => ?_) (fun hb7 => ?_)
        ·replace h := iteT h hb7
         refine Fg (lv S (Rm (S.tm rfl)) rfl ?_);clear S;intro a S
         refine l_buildSlice S Tryz.underlying55 Tryz.sizeOf9 Tryz.zeroValue9 rfl rfl (pv := [(0, sV k_empty), (1, sV k_sa)]) ⟨rfl, rfl, rfl, rfl, trivial⟩ (cs := [sV k_empty, sV k_sa]) (by kernel_rfl) rfl ?_;clear S;intro a w53 b14 hz14 hk43 S
         obtain ⟨r14, hr14, h⟩ := bindE h
         refine l_enter1 4 S (b := O) rfl rfl (fun _ => .blk O [U, iV r14.2] 25) (fun _ => run_call (vs := [.pointer (some ⟨O, 0, none⟩), .slice (some ⟨b14, 0, none⟩) 2 2]) ⟨(S.tm rfl), (S.tm rfl), trivial⟩ Tryz.call15) (Stream_Some_ok _ O U Ah (Ai.mono (S.le_arg (fp_sub (i := 4) (e := .blk O [U, iV r13.2] 25) rfl))) r13.2 (S.holds _ (List.mem_of_getElem? (i := 4) rfl)) (.slice (some ⟨b14, 0, none⟩) 2 2) [k_empty, k_sa] (lit_slcT enc_str S (i := 0) rfl rfl rfl rfl ((ne_fp (i := 4) (j := 0) (e := .blk O [U, iV r13.2] 25) (e' := .blk b14 [sV k_empty, sV k_sa] 9) S rfl rfl rfl) _ rfl)) _ hr14) rfl (fun _ _ _ h => ⟨h.1, fun _ hc => by cases hc;rfl⟩) ?_;clear S;intro v17 a w54 hv16 hk44 hn16 S
         replace hv16 := hv16.2
         subst hv16
         refine lv S (Rm (S.tm rfl)) rfl ?_;clear S;intro a S
         obtain ⟨r15, hr15, h⟩ := bindE h
         refine l_enter1 4 S (b := O) rfl rfl (fun _ => .blk O [U, iV r15.2] 25) (fun _ => run_call (vs := [.pointer (some ⟨O, 0, none⟩), iV 1, iV 9]) ⟨(S.tm rfl), rfl, rfl, trivial⟩ Tryz.call18) (Stream_Odd_ok _ O U Ah (Ai.mono (S.le_arg (fp_sub (i := 4) (e := .blk O [U, iV r14.2] 25) rfl))) r14.2 (S.holds _ (List.mem_of_getElem? (i := 4) rfl)) 1 9 _ hr15) rfl (fun _ _ _ h => ⟨h.1, fun _ hc => by cases hc;rfl⟩) ?_;clear S;intro v18 a w55 hv17 hk45 hn17 S
         replace hv17 := hv17.2
         subst hv17
         refine lv S (rn_fld fa_39_0 (S.tm rfl)) rfl ?_;clear S;intro a S
         refine l_store S (S.tm rfl) (S.tm rfl) (i := 1) (off := 0) rfl Tryz.sizeOf9 (vs := [sV r14.1]) rfl rfl rfl rfl ?_;clear S;intro w56 hk46 S
         refine lv S (rn_fld fa_39_1 (S.tm rfl)) rfl ?_;clear S;intro a S
         refine l_store S (S.tm rfl) (S.tm rfl) (i := 1) (off := 1) rfl Tryz.sizeOf3 (vs := [iV r15.1]) rfl rfl rfl rfl ?_;clear S;intro w57 hk47 S
         refine Ld ?_
         replace S := S.nk [.blk b5 (GDeed.enc (GDeed.mk r14.1 r15.1 (W (x4 + r1.1)) r3.1 x6 x9 x7 x10 x11 x12 x13)) 39, .map b1 (ments Value.string (Value.int .i64) (mput x1 r2.1 (W ((mgetD x1 r2.1 0) + 1)))) (mput x1 r2.1 (W ((mgetD x1 r2.1 0) + 1))).length, .own v1 39 11 x2.length (x2.flatMap GDeed.enc), .blk O [U, iV r15.2] 25] [(0, .pointer (some ⟨O, 0, none⟩)), (5, v1), (6, iV (W (x4 + r1.1))), (7, .map (some b1)), (8, .pointer (some ⟨b5, 0, none⟩)), (10, iV Bc), (11, iV x5)] [false, true, true, true, true] rfl (subR rfl)
         refine Tn ?_
         exact ⟨r14.1, r15.1, r3.1, x6, x9, x7, x10, x11, x13, r15.2, h, S.nf [true, true, true, true] rfl (subR rfl)⟩
        ·replace h := iteF h hb7
         refine Fs (Fg (lv S (rn_eql (S.tm rfl) rfl) rfl ?_));clear S;intro a S
         refine lv S (Ra (S.tm rfl)) rfl ?_;clear S;intro a S
         refine Ld ?_
         replace S := S.nk [.blk b5 (GDeed.enc (GDeed.mk r2.1 (mgetD (mput x1 r2.1 (W ((mgetD x1 r2.1 0) + 1))) r2.1 0) (W (x4 + r1.1)) r3.1 x6 x9 x7 x10 x11 x12 x13)) 39, .map b1 (ments Value.string (Value.int .i64) (mput x1 r2.1 (W ((mgetD x1 r2.1 0) + 1)))) (mput x1 r2.1 (W ((mgetD x1 r2.1 0) + 1))).length, .own v1 39 11 x2.length (x2.flatMap GDeed.enc), .blk O [U, iV r13.2] 25] [(0, .pointer (some ⟨O, 0, none⟩)), (5, v1), (6, iV (W (x4 + r1.1))), (7, .map (some b1)), (8, .pointer (some ⟨b5, 0, none⟩)), (10, iV Bc), (11, iV x5), (84, iV r13.1), (103, bV (decide (r13.1 = 1)))] [true, true, true, true] rfl (subR rfl)
         refine Tn ?_
         obtain ⟨j10, hj10, h⟩ := joinE h
         refine f_join (fun a w' => ∃ x59 : Int, ∃ x60 : ByteArray, ∃ x61 : ByteArray, ∃ x62 : ByteArray, ∃ x63 : Int, ∃ x64 : Int, ∃ x65 : Int, ∃ x66 : Int, j10 x59 x60 x61 x62 x63 x64 x65 x66 = some r ∧ Sx w [O] nov [.blk b5 (GDeed.enc (GDeed.mk r2.1 (mgetD (mput x1 r2.1 (W ((mgetD x1 r2.1 0) + 1))) r2.1 0) (W (x4 + r1.1)) x59 x60 x61 x62 x63 x64 x12 x65)) 39, .map b1 (ments Value.string (Value.int .i64) (mput x1 r2.1 (W ((mgetD x1 r2.1 0) + 1)))) (mput x1 r2.1 (W ((mgetD x1 r2.1 0) + 1))).length, .own v1 39 11 x2.length (x2.flatMap GDeed.enc), .blk O [U, iV x66] 25] [(0, .pointer (some ⟨O, 0, none⟩)), (5, v1), (6, iV (W (x4 + r1.1))), (7, .map (some b1)), (8, .pointer (some ⟨b5, 0, none⟩)), (10, iV Bc), (11, iV x5)] 130 a w') ?_ ?_
         ·refine f_cond (S.tm rfl) (fun hb8 => ?_) (fun hb8 => ?_)
          ·replace h := iteT h hb8
           refine Fg (lv S (Rm (S.tm rfl)) rfl ?_);clear S;intro a S
           obtain ⟨r16, hr16, h⟩ := bindE h
           refine l_enter1 3 S (b := O) rfl rfl (fun _ => .blk O [U, iV r16.2] 25) (fun _ => run_call (vs := [.pointer (some ⟨O, 0, none⟩), iV 1, iV 4]) ⟨(S.tm rfl), rfl, rfl, trivial⟩ Tryz.call18) (Stream_Odd_ok _ O U Ah (Ai.mono (S.le_arg (fp_sub (i := 3) (e := .blk O [U, iV r13.2] 25) rfl))) r13.2 (S.holds _ (List.mem_of_getElem? (i := 3) rfl)) 1 4 _ hr16) rfl (fun _ _ _ h => ⟨h.1, fun _ hc => by cases hc;rfl⟩) ?_;clear S;intro v19 a w59 hv18 hk48 hn18 S
           replace hv18 := hv18.2
           subst hv18
           refine lv S (rn_fld fa_39_3 (S.tm rfl)) rfl ?_;clear S;intro a S
           refine l_store S (S.tm rfl) (S.tm rfl) (i := 0) (off := 3) rfl Tryz.sizeOf3 (vs := [iV r16.1]) rfl rfl rfl rfl ?_;clear S;intro w60 hk49 S
           refine Ld (Tn ?_)
           exact ⟨r16.1, x6, x9, x7, x10, x11, x13, r16.2, h, S.nf [true, true, true, true] rfl (subR rfl)⟩
          ·replace h := iteF h hb8
           refine Fs (Fg (lv S (rn_eql (S.tm rfl) rfl) rfl ?_));clear S;intro a S
           refine lv S (Ra (S.tm rfl)) rfl ?_;clear S;intro a S
           refine Ld (Tn ?_)
           obtain ⟨j11, hj11, h⟩ := joinE h
           refine f_join (fun a w' => ∃ x67 : ByteArray, ∃ x68 : ByteArray, ∃ x69 : ByteArray, ∃ x70 : Int, ∃ x71 : Int, ∃ x72 : Int, ∃ x73 : Int, j11 x67 x68 x69 x70 x71 x72 x73 = some r ∧ Sx w [O] nov [.blk b5 (GDeed.enc (GDeed.mk r2.1 (mgetD (mput x1 r2.1 (W ((mgetD x1 r2.1 0) + 1))) r2.1 0) (W (x4 + r1.1)) r3.1 x67 x68 x69 x70 x71 x12 x72)) 39, .map b1 (ments Value.string (Value.int .i64) (mput x1 r2.1 (W ((mgetD x1 r2.1 0) + 1)))) (mput x1 r2.1 (W ((mgetD x1 r2.1 0) + 1))).length, .own v1 39 11 x2.length (x2.flatMap GDeed.enc), .blk O [U, iV x73] 25] [(0, .pointer (some ⟨O, 0, none⟩)), (5, v1), (6, iV (W (x4 + r1.1))), (7, .map (some b1)), (8, .pointer (some ⟨b5, 0, none⟩)), (10, iV Bc), (11, iV x5)] 130 a w') ?_ ?_
           ·refine f_cond (S.tm rfl) (fun hb9 => ?_) (fun hb9 => ?_)
            ·replace h := iteT h hb9
             refine Fg (lv S (Rm (S.tm rfl)) rfl ?_);clear S;intro a S
             refine l_buildSlice S Tryz.underlying55 Tryz.sizeOf9 Tryz.zeroValue9 rfl rfl (pv := [(0, sV k_empty), (1, sV k_ann)]) ⟨rfl, rfl, rfl, rfl, trivial⟩ (cs := [sV k_empty, sV k_ann]) (by kernel_rfl) rfl ?_;clear S;intro a w62 b15 hz15 hk50 S
             obtain ⟨r17, hr17, h⟩ := bindE h
             refine l_enter1 4 S (b := O) rfl rfl (fun _ => .blk O [U, iV r17.2] 25) (fun _ => run_call (vs := [.pointer (some ⟨O, 0, none⟩), .slice (some ⟨b15, 0, none⟩) 2 2]) ⟨(S.tm rfl), (S.tm rfl), trivial⟩ Tryz.call15) (Stream_Some_ok _ O U Ah (Ai.mono (S.le_arg (fp_sub (i := 4) (e := .blk O [U, iV r13.2] 25) rfl))) r13.2 (S.holds _ (List.mem_of_getElem? (i := 4) rfl)) (.slice (some ⟨b15, 0, none⟩) 2 2) [k_empty, k_ann] (lit_slcT enc_str S (i := 0) rfl rfl rfl rfl ((ne_fp (i := 4) (j := 0) (e := .blk O [U, iV r13.2] 25) (e' := .blk b15 [sV k_empty, sV k_ann] 9) S rfl rfl rfl) _ rfl)) _ hr17) rfl (fun _ _ _ h => ⟨h.1, fun _ hc => by cases hc;rfl⟩) ?_;clear S;intro v20 a w63 hv19 hk51 hn19 S
             replace hv19 := hv19.2
             subst hv19
             refine lv S (Rm (S.tm rfl)) rfl ?_;clear S;intro a S
             refine l_buildSlice S Tryz.underlying55 Tryz.sizeOf9 Tryz.zeroValue9 rfl rfl (pv := [(0, sV k_A), (1, sV k_blue)]) ⟨rfl, rfl, rfl, rfl, trivial⟩ (cs := [sV k_A, sV k_blue]) (by kernel_rfl) rfl ?_;clear S;intro a w64 b16 hz16 hk52 S
             obtain ⟨r18, hr18, h⟩ := bindE h
             refine l_enter1 5 S (b := O) rfl rfl (fun _ => .blk O [U, iV r18.2] 25) (fun _ => run_call (vs := [.pointer (some ⟨O, 0, none⟩), .slice (some ⟨b16, 0, none⟩) 2 2]) ⟨(S.tm rfl), (S.tm rfl), trivial⟩ Tryz.call15) (Stream_Some_ok _ O U Ah (Ai.mono (S.le_arg (fp_sub (i := 5) (e := .blk O [U, iV r17.2] 25) rfl))) r17.2 (S.holds _ (List.mem_of_getElem? (i := 5) rfl)) (.slice (some ⟨b16, 0, none⟩) 2 2) [k_A, k_blue] (lit_slcT enc_str S (i := 0) rfl rfl rfl rfl ((ne_fp (i := 5) (j := 0) (e := .blk O [U, iV r17.2] 25) (e' := .blk b16 [sV k_A, sV k_blue] 9) S rfl rfl rfl) _ rfl)) _ hr18) rfl (fun _ _ _ h => ⟨h.1, fun _ hc => by cases hc;rfl⟩) ?_;clear S;intro v21 a w65 hv20 hk53 hn20 S
             replace hv20 := hv20.2
             subst hv20
             refine lv S (Rm (S.tm rfl)) rfl ?_;clear S;intro a S
             refine l_buildSlice S Tryz.underlying55 Tryz.sizeOf9 Tryz.zeroValue9 rfl rfl (pv := [(0, sV k_empty), (1, sV k_ra)]) ⟨rfl, rfl, rfl, rfl, trivial⟩ (cs := [sV k_empty, sV k_ra]) (by kernel_rfl) rfl ?_;clear S;intro a w66 b17 hz17 hk54 S
             obtain ⟨r19, hr19, h⟩ := bindE h
             refine l_enter1 6 S (b := O) rfl rfl (fun _ => .blk O [U, iV r19.2] 25) (fun _ => run_call (vs := [.pointer (some ⟨O, 0, none⟩), .slice (some ⟨b17, 0, none⟩) 2 2]) ⟨(S.tm rfl), (S.tm rfl), trivial⟩ Tryz.call15) (Stream_Some_ok _ O U Ah (Ai.mono (S.le_arg (fp_sub (i := 6) (e := .blk O [U, iV r18.2] 25) rfl))) r18.2 (S.holds _ (List.mem_of_getElem? (i := 6) rfl)) (.slice (some ⟨b17, 0, none⟩) 2 2) [k_empty, k_ra] (lit_slcT enc_str S (i := 0) rfl rfl rfl rfl ((ne_fp (i := 6) (j := 0) (e := .blk O [U, iV r18.2] 25) (e' := .blk b17 [sV k_empty, sV k_ra] 9) S rfl rfl rfl) _ rfl)) _ hr19) rfl (fun _ _ _ h => ⟨h.1, fun _ hc => by cases hc;rfl⟩) ?_;clear S;intro v22 a w67 hv21 hk55 hn21 S
             replace hv21 := hv21.2
             subst hv21
             refine lv S (rn_fld fa_39_4 (S.tm rfl)) rfl ?_;clear S;intro a S
             refine l_store S (S.tm rfl) (S.tm rfl) (i := 3) (off := 4) rfl Tryz.sizeOf9 (vs := [sV r17.1]) rfl rfl rfl rfl ?_;clear S;intro w68 hk56 S
             refine lv S (rn_fld fa_39_5 (S.tm rfl)) rfl ?_;clear S;intro a S
             refine l_store S (S.tm rfl) (S.tm rfl) (i := 3) (off := 5) rfl Tryz.sizeOf9 (vs := [sV r18.1]) rfl rfl rfl rfl ?_;clear S;intro w69 hk57 S
             refine lv S (rn_fld fa_39_6 (S.tm rfl)) rfl ?_;clear S;intro a S
             refine l_store S (S.tm rfl) (S.tm rfl) (i := 3) (off := 6) rfl Tryz.sizeOf9 (vs := [sV r19.1]) rfl rfl rfl rfl ?_;clear S;intro w70 hk58 S
             refine Ld ?_
             replace S := S.nk [.blk b5 (GDeed.enc (GDeed.mk r2.1 (mgetD (mput x1 r2.1 (W ((mgetD x1 r2.1 0) + 1))) r2.1 0) (W (x4 + r1.1)) r3.1 r17.1 r18.1 r19.1 x10 x11 x12 x13)) 39, .map b1 (ments Value.string (Value.int .i64) (mput x1 r2.1 (W ((mgetD x1 r2.1 0) + 1)))) (mput x1 r2.1 (W ((mgetD x1 r2.1 0) + 1))).length, .own v1 39 11 x2.length (x2.flatMap GDeed.enc), .blk O [U, iV r19.2] 25] [(0, .pointer (some ⟨O, 0, none⟩)), (5, v1), (6, iV (W (x4 + r1.1))), (7, .map (some b1)), (8, .pointer (some ⟨b5, 0, none⟩)), (10, iV Bc), (11, iV x5)] [false, false, false, true, true, true, true] rfl (subR rfl)
             refine Tn ?_
             exact ⟨r17.1, r18.1, r19.1, x10, x11, x13, r19.2, h, S.nf [true, true, true, true] rfl (subR rfl)⟩
            ·replace h := iteF h hb9
             refine Fg (lv S (Rm (S.tm rfl)) rfl ?_);clear S;intro a S
             obtain ⟨r20, hr20, h⟩ := bindE h
             refine l_enter1 3 S (b := O) rfl rfl (fun _ => .blk O [U, iV r20.2] 25) (fun _ => run_call (vs := [.pointer (some ⟨O, 0, none⟩), iV 0, iV 360000]) ⟨(S.tm rfl), rfl, rfl, trivial⟩ Tryz.call18) (Stream_Odd_ok _ O U Ah (Ai.mono (S.le_arg (fp_sub (i := 3) (e := .blk O [U, iV r13.2] 25) rfl))) r13.2 (S.holds _ (List.mem_of_getElem? (i := 3) rfl)) 0 360000 _ hr20) rfl (fun _ _ _ h => ⟨h.1, fun _ hc => by cases hc;rfl⟩) ?_;clear S;intro v23 a w71 hv22 hk59 hn22 S
             replace hv22 := hv22.2
             subst hv22
             refine lv S (Rm (S.tm rfl)) rfl ?_;clear S;intro a S
             obtain ⟨r21, hr21, h⟩ := bindE h
             refine l_enter1 3 S (b := O) rfl rfl (fun _ => .blk O [U, iV r21.2] 25) (fun _ => run_call (vs := [.pointer (some ⟨O, 0, none⟩), iV 0, iV 8]) ⟨(S.tm rfl), rfl, rfl, trivial⟩ Tryz.call18) (Stream_Odd_ok _ O U Ah (Ai.mono (S.le_arg (fp_sub (i := 3) (e := .blk O [U, iV r20.2] 25) rfl))) r20.2 (S.holds _ (List.mem_of_getElem? (i := 3) rfl)) 0 8 _ hr21) rfl (fun _ _ _ h => ⟨h.1, fun _ hc => by cases hc;rfl⟩) ?_;clear S;intro v24 a w72 hv23 hk60 hn23 S
             replace hv23 := hv23.2
             subst hv23
             refine lv S (Rm (S.tm rfl)) rfl ?_;clear S;intro a S
             obtain ⟨r22, hr22, h⟩ := bindE h
             refine l_enter1 3 S (b := O) rfl rfl (fun _ => .blk O [U, iV r22.2] 25) (fun _ => run_call (vs := [.pointer (some ⟨O, 0, none⟩), iV 0, iV 5]) ⟨(S.tm rfl), rfl, rfl, trivial⟩ Tryz.call18) (Stream_Odd_ok _ O U Ah (Ai.mono (S.le_arg (fp_sub (i := 3) (e := .blk O [U, iV r21.2] 25) rfl))) r21.2 (S.holds _ (List.mem_of_getElem? (i := 3) rfl)) 0 5 _ hr22) rfl (fun _ _ _ h => ⟨h.1, fun _ hc => by cases hc;rfl⟩) ?_;clear S;intro v25 a w73 hv24 hk61 hn24 S
             replace hv24 := hv24.2
             subst hv24
             refine lv S (rn_fld fa_39_7 (S.tm rfl)) rfl ?_;clear S;intro a S
             refine l_store S (S.tm rfl) (S.tm rfl) (i := 0) (off := 7) rfl Tryz.sizeOf3 (vs := [iV r20.1]) rfl rfl rfl rfl ?_;clear S;intro w74 hk62 S
             refine lv S (rn_fld fa_39_8 (S.tm rfl)) rfl ?_;clear S;intro a S
             refine l_store S (S.tm rfl) (S.tm rfl) (i := 0) (off := 8) rfl Tryz.sizeOf3 (vs := [iV r21.1]) rfl rfl rfl rfl ?_;clear S;intro w75 hk63 S
             refine lv S (rn_fld fa_39_10 (S.tm rfl)) rfl ?_;clear S;intro a S
             refine l_store S (S.tm rfl) (S.tm rfl) (i := 0) (off := 10) rfl Tryz.sizeOf3 (vs := [iV r22.1]) rfl rfl rfl rfl ?_;clear S;intro w76 hk64 S
             refine Ld ?_
             replace S := S.nk [.blk b5 (GDeed.enc (GDeed.mk r2.1 (mgetD (mput x1 r2.1 (W ((mgetD x1 r2.1 0) + 1))) r2.1 0) (W (x4 + r1.1)) r3.1 x6 x9 x7 r20.1 r21.1 x12 r22.1)) 39, .map b1 (ments Value.string (Value.int .i64) (mput x1 r2.1 (W ((mgetD x1 r2.1 0) + 1)))) (mput x1 r2.1 (W ((mgetD x1 r2.1 0) + 1))).length, .own v1 39 11 x2.length (x2.flatMap GDeed.enc), .blk O [U, iV r22.2] 25] [(0, .pointer (some ⟨O, 0, none⟩)), (5, v1), (6, iV (W (x4 + r1.1))), (7, .map (some b1)), (8, .pointer (some ⟨b5, 0, none⟩)), (10, iV Bc), (11, iV x5)] [true, true, true, true] rfl (subR rfl)
             refine Tn ?_
             exact ⟨x6, x9, x7, r20.1, r21.1, r22.1, r22.2, h, S.nf [true, true, true, true] rfl (subR rfl)⟩
           clear S h;rintro a w61 ⟨x67, x68, x69, x70, x71, x72, x73, h, S⟩;rw [hj11] at h;clear hj11 j11
           refine Tn ?_
           exact ⟨r3.1, x67, x68, x69, x70, x71, x72, x73, h, S.nf [true, true, true, true] rfl (subR rfl)⟩
         clear S h;rintro a w58 ⟨x59, x60, x61, x62, x63, x64, x65, x66, h, S⟩;rw [hj10] at h;clear hj10 j10
         refine Tn ?_
         exact ⟨r2.1, mgetD (mput x1 r2.1 (W ((mgetD x1 r2.1 0) + 1))) r2.1 0, x59, x60, x61, x62, x63, x64, x65, x66, h, S.nf [true, true, true, true] rfl (subR rfl)⟩
       clear S h;rintro a w52 ⟨x49, x50, x51, x52, x53, x54, x55, x56, x57, x58, h, S⟩;rw [hj9] at h;clear hj9 j9
       refine blk_n (Tn ?_)
       exact ⟨x49, x50, x51, x52, x53, x54, x55, x56, x57, x58, h, S.nf [true, true, true, true] rfl (subR rfl)⟩
      clear S h;rintro a w51 ⟨x39, x40, x41, x42, x43, x44, x45, x46, x47, x48, h, S⟩;rw [hj8] at h;clear hj8 j8
      refine Tn ?_
      exact ⟨x39, x40, x41, x42, x43, x44, x45, x46, x47, x48, h, S.nf [true, true, true, true] rfl (subR rfl)⟩
     ·replace h := iteF h hb6
      refine wp_skip (Tn ?_)
      exact ⟨r2.1, mgetD (mput x1 r2.1 (W ((mgetD x1 r2.1 0) + 1))) r2.1 0, r3.1, x6, x9, x7, x10, x11, x13, r12.2, h, S.nf [true, true, true, true] rfl (subR rfl)⟩
    clear S h;rintro a w49 ⟨x29, x30, x31, x32, x33, x34, x35, x36, x37, x38, h, S⟩;rw [hj7] at h;clear hj7 j7
    refine Tn (Fg (lv S (Rm (S.tm rfl)) rfl ?_));clear S;intro a S
    refine lv S (rn_ldA Tryz.isAgg39 Tryz.sizeOf39 (off := 0) (o := 0) (part := (GDeed.enc (GDeed.mk x29 x30 (W (x4 + r1.1)) x31 x32 x33 x34 x35 x36 x12 x37))) rfl rfl (S.tm rfl) (S.cellsAt (i := 0) rfl)) rfl ?_;clear S;intro a S
    refine l_buildSlice S Tryz.underlying26 Tryz.sizeOf39 Tryz.zeroValue39 rfl rfl (pv := [(0, .agg (GDeed.enc (GDeed.mk x29 x30 (W (x4 + r1.1)) x31 x32 x33 x34 x35 x36 x12 x37)).toArray)]) ⟨rfl, (S.tm rfl), trivial⟩ (cs := [sV x29, iV x30, iV (W (x4 + r1.1)), iV x31, sV x32, sV x33, sV x34, iV x35, iV x36, sV x12, iV x37]) (by kernel_rfl) rfl ?_;clear S;intro a w77 b18 hz18 hk65 S
    obtain ⟨hc1, h⟩ := chkE h
    refine l_appendT sl_26 GDeed.enc_ok S (S.tm rfl) (i := 3) rfl (S.tm rfl) (j := 0) rfl (ys := [(GDeed.mk x29 x30 (W (x4 + r1.1)) x31 x32 x33 x34 x35 x36 x12 x37)]) rfl rfl rfl rfl (by have := room_lt hc1;omega) rfl ?_;clear S;intro v26 a w78 hk66 S
    refine lv S (Ra (S.tm rfl)) rfl ?_;clear S;intro a S
    refine Ld (blk_n (Tn (Fg (lv S (rn_add (S.tm rfl) rfl) rfl ?_))));clear S;intro a S
    refine lv S (Rm (S.tm rfl)) rfl ?_;clear S;intro a S
    refine Ld (Tn ?_)
    exact ⟨m1, ⟨(mput x1 r2.1 (W ((mgetD x1 r2.1 0) + 1))), (x2 ++ [(GDeed.mk x29 x30 (W (x4 + r1.1)) x31 x32 x33 x34 x35 x36 x12 x37)]), x38, W (x4 + r1.1), W (x5 + 1), v26, h, S.nf [false, false, true, true, true] rfl ⟨rfl, rfl, rfl, rfl, rfl, rfl, trivial⟩⟩, Nat.lt_succ_self _⟩
   ·replace h := iteF h hb1
    refine wp_exit (then_x (then_x (x_same (Tn ?_))))
    exact ⟨x1, x2, x3, v1, h, S.nf [true, true, true] rfl ⟨rfl, trivial⟩⟩
 clear S h;rintro a w3 ⟨x1, x2, x3, v1, h, S⟩;rw [hj1] at h;clear hj1 j1
 refine Tn (Fs (Fg (lv S (Rm (S.tm rfl)) rfl ?_)));clear S;intro a S
 obtain ⟨r23, hr23, h⟩ := bindE h
 refine l_enterO 1 S rfl (fun _ => .own v1 39 11 r23.length (r23.flatMap GDeed.enc)) (fun _ => run_call (vs := [v1, .func (.func 20) #[] #[]]) ⟨(S.tm rfl), rfl, trivial⟩ Tryz.call19) (slices_SortStableFunc_Deed_tumbref2_DeedOrder_ok _ v1 x2 (S.holds _ (List.mem_of_getElem? (i := 1) rfl)) _ hr23) rfl (fun _ _ _ h => ⟨h.1, fun _ hc => hc⟩) ?_;clear S;intro v27 a w79 hv25 hk67 hn25 S
 replace hv25 := hv25.2
 subst hv25
 refine Ld (Tn (Fs (Fg (lv S (Rm (S.tm rfl)) rfl ?_))));clear S;intro a S
 refine lv S (Ra (S.tm rfl)) rfl ?_;clear S;intro a S
 refine Ld (Tn (wp_ret ?_))
 obtain rfl := Option.some.inj h
 exact f_ret S Tryz.results4 rfl ⟨(S.holds _ (List.mem_of_getElem? (i := 2) rfl)), (own_retX S (i := 1) rfl (fun c hc hh => not_fps S (i := 2) rfl rfl (j := 1) rfl rfl (by simp at hc;subst hc;exact hh)))⟩
theorem tumbref2_in_ok (w : World) (Be : Int) (Bq : Int) (Bl : Int) (r : Bool) (h : tumbref2_in Be Bq Bl = r) :
    Calls Tryz.prog 60 [iV Be, iV Bq, iV Bl].toArray w (Ret w [] fun _ v _ => v = bV r) := by
 refine f_enter [] [] Tryz.func60 rfl Tryz.ntmps60 rfl (by simp) (by simp [fps]) (by simp [fps]) fun a S => ?_
 unfold tumbref2_in at h
 replace S := S.nk [] [(0, iV Be), (1, iV Bq), (2, iV Bl)] [] rfl (subR rfl)
 refine Fs (Fg (lv S (Ra rfl) rfl ?_));clear S;intro a S
 refine Ld (Tn (Fs (Fg (lv S (Rm (S.tm rfl)) rfl ?_))));clear S;intro a S
 refine lv S (Rm (S.tm rfl)) rfl ?_;clear S;intro a S
 refine lv S (rn_leq (S.tm rfl) (S.tm rfl)) rfl ?_;clear S;intro a S
 refine lv S (Rm (S.tm rfl)) rfl ?_;clear S;intro a S
 refine f_cutm 4 (fun a w' => Keep [] w w' ∧ Sx w [] nov [] [(14, bV ((decide (Bq ≤ Be)) && (decide (Be ≤ Bl))))] 15 a w') ?_ ?_
 ·rcases Bool.eq_false_or_eq_true (decide (Bq ≤ Be)) with hb1 | hb1
  ·refine l_want S rfl rfl rfl hb1 (lv S (Rm (S.tm rfl)) rfl ?_);clear S;intro a S
   refine l_want S rfl rfl rfl hb1 (lv S (Rm (S.tm rfl)) rfl ?_);clear S;intro a S
   refine l_want S rfl rfl rfl hb1 (lv S (rn_leq (S.tm rfl) (S.tm rfl)) rfl ?_);clear S;intro a S
   refine lv S (rn_and_t hb1 (S.tm rfl) (S.tm rfl)) rfl ?_;clear S;intro a S
   refine Ld (Tn ?_)
   exact ⟨Keep.refl _ _, S.nf [] rfl ⟨rfl, trivial⟩⟩
  ·iterate 3 (refine l_skip S rfl rfl rfl (neq_f hb1) rfl ?_ rfl;clear S;intro a S)
   refine lv S (rn_and_f (decide (Be ≤ Bl)) hb1 (S.tm rfl) rfl) rfl ?_;clear S;intro a S
   refine Ld (Tn ?_)
   exact ⟨Keep.refl _ _, S.nf [] rfl ⟨rfl, trivial⟩⟩
 clear S;rintro a w1 ⟨hk1, S⟩
 refine lv S (Ra (S.tm rfl)) rfl ?_;clear S;intro a S
 refine Ld (Tn (wp_ret ?_))
 subst h
 exact f_ret S Tryz.results60 rfl rfl
theorem strings_IndexByte_ok (w : World) (s : ByteArray) (c : Int) (r : Int) (h : strings_IndexByte s c = r) : Calls Tryz.prog 100 [.string s, .int .u8 c].toArray w (Ret w [] fun _ v _ => v = .int .i64 r) := by
  subst h
  exact ret_of_same (Any.strings_IndexByte Tryz.lays137 s c w)
theorem tumbref2_only_ok (w : World) (Ad : ByteArray) (Cq : ByteArray) (r : Bool) (h : tumbref2_only Ad Cq = some r) :
    Calls Tryz.prog 82 [sV Ad, sV Cq].toArray w (Ret w [] fun _ v _ => v = bV r) := by
 refine f_enter [] [] Tryz.func82 rfl Tryz.ntmps82 rfl (by simp) (by simp [fps]) (by simp [fps]) fun a S => ?_
 unfold tumbref2_only at h
 replace S := S.nk [] [(0, sV Ad), (1, sV Cq)] [] rfl (subR rfl)
 refine Fs (Fg (lv S (Ra rfl) rfl ?_));clear S;intro a S
 refine Ld (Tn (Fs (Fs (Fg (lv S (Rm (S.tm rfl)) rfl ?_)))));clear S;intro a S
 refine lv S (rn_len_str Tryz.underlying9 (S.tm rfl)) rfl ?_;clear S;intro a S
 refine lv S (Rm rfl) rfl ?_;clear S;intro a S
 refine Ld (Tn ?_)
 replace S := S.nk [] [(0, sV Ad), (1, sV Cq), (7, iV (Ad.size : Int)), (8, iV 0)] [] rfl (subR rfl)
 obtain ⟨j1, hj1, h⟩ := joinE h
 refine f_join (fun a w' => j1 = some r ∧ Sx w [] nov [] [] 18 a w') ?_ ?_
 ·refine wp_block (f_loop (fun (m1 : Nat) a w' => ∃ x1 : Int, tumbref2_only_l1 Ad Cq j1 m1 x1 = some r ∧ Sx w [] nov [] [(0, sV Ad), (1, sV Cq), (7, iV (Ad.size : Int)), (8, iV x1)] 18 a w') id (((Ad.size : Int) - 0).toNat + 2) ⟨0, h, S.nf [] rfl (subR rfl)⟩ ?_)
  clear S h;rintro m1 a w1 ⟨x1, h, S⟩
  cases m1 with
  | zero => rw [tumbref2_only_l1.eq_1] at h;cases h
  | succ m1 =>
   rw [tumbref2_only_l1.eq_2] at h
   refine Fs (Fg (lv S (rn_lss (S.tm rfl) (S.tm rfl)) rfl ?_));clear S;intro a S
   refine Ld (Tn (Fs (f_cond (S.tm rfl) (fun hb1 => ?_) (fun hb1 => ?_))))
   ·replace h := iteT h hb1
    refine wp_skip (Tn (Fs (wp_block (Fs (Fg (lv S (Rm (S.tm rfl)) rfl ?_))))));clear S;intro a S
    refine lv S (Ra (S.tm rfl)) rfl ?_;clear S;intro a S
    refine Ld (Tn (Fs (Fg (lv S (Rm (S.tm rfl)) rfl ?_))));clear S;intro a S
    refine lv S (Rm (S.tm rfl)) rfl ?_;clear S;intro a S
    refine lv S (Rm (S.tm rfl)) rfl ?_;clear S;intro a S
    obtain ⟨hc1, h⟩ := chkE h
    refine lv S (rn_sindexT Tryz.underlying9 (S.tm rfl) (S.tm rfl) hc1) rfl ?_;clear S;intro a S
    refine l_enter S (fun _ => run_call (vs := [sV Cq, .int .u8 (sbyte Ad x1)]) ⟨(S.tm rfl), (S.tm rfl), trivial⟩ Tryz.call100) (strings_IndexByte_ok _ Cq (sbyte Ad x1) _ rfl) rfl ?_;clear S;intro v1 a w3 hv1 hk1 hn1 S
    subst hv1
    refine lv S (rn_lss (S.tm rfl) rfl) rfl ?_;clear S;intro a S
    refine Ld (Tn (f_cond (S.tm rfl) (fun hb2 => ?_) (fun hb2 => ?_)))
    ·replace h := iteT h hb2
     refine Fs (Fg (lv S (Ra rfl) rfl ?_));clear S;intro a S
     refine Ld (Tn (wp_ret (blk_r (then_r (then_r (blk_r ?_))))))
     refine then_r (then_r ?_)
     obtain rfl := Option.some.inj h
     exact f_ret S Tryz.results82 rfl rfl
    ·replace h := iteF h hb2
     refine wp_skip (blk_n (Tn (Fg (lv S (rn_add (S.tm rfl) rfl) rfl ?_))));clear S;intro a S
     refine lv S (Rm (S.tm rfl)) rfl ?_;clear S;intro a S
     refine Ld (Tn ?_)
     exact ⟨m1, ⟨W (x1 + 1), h, S.nf [] rfl ⟨rfl, rfl, rfl, rfl, trivial⟩⟩, Nat.lt_succ_self _⟩
   ·replace h := iteF h hb1
    refine wp_exit (then_x (then_x (x_same (Tn ?_))))
    exact ⟨h, S.nf [] rfl trivial⟩
 clear S h;rintro a w2 ⟨h, S⟩;rw [hj1] at h;clear hj1 j1
 refine Tn (Fs (Fg (lv S (Ra rfl) rfl ?_)));clear S;intro a S
 refine Ld (Tn (wp_ret ?_))
 obtain rfl := Option.some.inj h
 exact f_ret S Tryz.results82 rfl rfl
theorem tumbref2_Key_ok (w : World) (Ad : ByteArray) (r : Bool) (h : tumbref2_Key Ad = some r) :
    Calls Tryz.prog 59 [sV Ad].toArray w (Ret w [] fun _ v _ => v = bV r) := by
 refine f_enter [] [] Tryz.func59 rfl Tryz.ntmps59 rfl (by simp) (by simp [fps]) (by simp [fps]) fun a S => ?_
 unfold tumbref2_Key at h
 replace S := S.nk [] [(0, sV Ad)] [] rfl ⟨rfl, trivial⟩
 refine Fs (Fg (lv S (Ra rfl) rfl ?_));clear S;intro a S
 refine Ld (Tn (Fs (Fg (lv S (Rm (S.tm rfl)) rfl ?_))));clear S;intro a S
 refine lv S (rn_len_str Tryz.underlying9 (S.tm rfl)) rfl ?_;clear S;intro a S
 refine l_enter S (fun _ => run_call (vs := [iV (Ad.size : Int), iV 1, iV 40]) ⟨(S.tm rfl), rfl, rfl, trivial⟩ Tryz.call60) (tumbref2_in_ok _ (Ad.size : Int) 1 40 _ rfl) rfl ?_;clear S;intro v1 a w1 hv1 hk1 hn1 S
 subst hv1
 refine lv S (Rm (S.tm rfl)) rfl ?_;clear S;intro a S
 obtain ⟨j1, hj1, h⟩ := joinE h
 refine f_cutm 4 (fun a w' => ∃ c1, j1 c1 = some r ∧ Keep [] w1 w' ∧ Sx w [] nov [] [(0, sV Ad), (10, bV c1)] 15 a w') ?_ ?_
 ·rcases Bool.eq_false_or_eq_true (tumbref2_in (Ad.size : Int) 1 40) with hb1 | hb1
  ·replace h := iteT h hb1
   refine l_want S rfl rfl rfl hb1 (lv S (Rm (S.tm rfl)) rfl ?_);clear S;intro a S
   refine l_want S rfl rfl rfl hb1 ?_
   obtain ⟨hc1, h⟩ := chkE h
   refine lv S (rn_scutTh Tryz.underlying9 (S.tm rfl) rfl hc1) rfl ?_;clear S;intro a S
   refine l_want S rfl rfl rfl hb1 ?_
   obtain ⟨r1, hr1, h⟩ := bindE h
   refine l_enter S (fun _ => run_call (vs := [sV (scut Ad 0 1), sV k_abcdefghijklmnopqrstuvwxyz]) ⟨(S.tm rfl), rfl, trivial⟩ Tryz.call82) (tumbref2_only_ok _ (scut Ad 0 1) k_abcdefghijklmnopqrstuvwxyz _ hr1) rfl ?_;clear S;intro v2 a w3 hv2 hk2 hn2 S
   subst hv2
   refine lv S (rn_and_t hb1 (S.tm rfl) (S.tm rfl)) rfl ?_;clear S;intro a S
   refine Ld (Tn ?_)
   exact ⟨_, h, hk2, S.nf [] rfl (subR rfl)⟩
  ·replace h := iteF h hb1
   iterate 3 (refine l_skip S rfl rfl rfl (neq_f hb1) rfl ?_ rfl;clear S;intro a S)
   refine lv S (rn_and_f true hb1 (S.tm rfl) rfl) rfl ?_;clear S;intro a S
   refine Ld (Tn ?_)
   exact ⟨_, h, Keep.refl _ _, S.nf [] rfl (subR rfl)⟩
 clear S h;rintro a w2 ⟨c1, h, hk3, S⟩;rw [hj1] at h;clear hj1 j1
 refine lv S (Rm (S.tm rfl)) rfl ?_;clear S;intro a S
 obtain ⟨j2, hj2, h⟩ := joinE h
 refine f_cutm 3 (fun a w' => ∃ c2, j2 c2 = some r ∧ Keep [] w2 w' ∧ Sx w [] nov [] [(14, bV c2)] 15 a w') ?_ ?_
 ·rcases Bool.eq_false_or_eq_true c1 with hb2 | hb2
  ·replace h := iteT h hb2
   refine l_want S rfl rfl rfl hb2 (lv S (Rm (S.tm rfl)) rfl ?_);clear S;intro a S
   refine l_want S rfl rfl rfl hb2 ?_
   obtain ⟨r2, hr2, h⟩ := bindE h
   refine l_enter S (fun _ => run_call (vs := [sV Ad, sV k_abcdefghijkl_h0e2e2c]) ⟨(S.tm rfl), rfl, trivial⟩ Tryz.call82) (tumbref2_only_ok _ Ad k_abcdefghijkl_h0e2e2c _ hr2) rfl ?_;clear S;intro v3 a w5 hv3 hk4 hn3 S
   subst hv3
   refine lv S (rn_and_t hb2 (S.tm rfl) (S.tm rfl)) rfl ?_;clear S;intro a S
   refine Ld (Tn ?_)
   exact ⟨_, h, hk4, S.nf [] rfl ⟨rfl, trivial⟩⟩
  ·replace h := iteF h hb2
   refine l_skip S rfl rfl rfl (neq_f hb2) rfl ?_ rfl;clear S;intro a S
   refine l_skip S rfl rfl rfl (neq_f hb2) rfl ?_ rfl;clear S;intro a S
   refine lv S (rn_and_f true hb2 (S.tm rfl) rfl) rfl ?_;clear S;intro a S
   refine Ld (Tn ?_)
   exact ⟨_, h, Keep.refl _ _, S.nf [] rfl ⟨rfl, trivial⟩⟩
 clear S h;rintro a w4 ⟨c2, h, hk5, S⟩;rw [hj2] at h;clear hj2 j2
 refine lv S (Ra (S.tm rfl)) rfl ?_;clear S;intro a S
 refine Ld (Tn (wp_ret ?_))
 obtain rfl := Option.some.inj h
 exact f_ret S Tryz.results59 rfl rfl
theorem tumbref2_Moment_ok (w : World) (Bm : Int) (r : Bool) (h : tumbref2_Moment Bm = r) :
    Calls Tryz.prog 61 [iV Bm].toArray w (Ret w [] fun _ v _ => v = bV r) := by
 refine f_enter [] [] Tryz.func61 rfl Tryz.ntmps61 rfl (by simp) (by simp [fps]) (by simp [fps]) fun a S => ?_
 unfold tumbref2_Moment at h
 replace S := S.nk [] [(0, iV Bm)] [] rfl ⟨rfl, trivial⟩
 refine Fs (Fg (lv S (Ra rfl) rfl ?_));clear S;intro a S
 refine Ld (Tn (Fs (Fg (lv S (Rm (S.tm rfl)) rfl ?_))));clear S;intro a S
 refine l_enter S (fun _ => run_call (vs := [iV Bm, iV 0, iV 345686399999]) ⟨(S.tm rfl), rfl, rfl, trivial⟩ Tryz.call60) (tumbref2_in_ok _ Bm 0 345686399999 _ rfl) rfl ?_;clear S;intro v1 a w1 hv1 hk1 hn1 S
 subst hv1
 refine lv S (Ra (S.tm rfl)) rfl ?_;clear S;intro a S
 refine Ld (Tn (wp_ret ?_))
 subst h
 exact f_ret S Tryz.results61 rfl rfl
theorem tumbref2_DeedFault_ok (w : World) (Ae : GDeed) (r : Int) (h : tumbref2_DeedFault Ae = some r) :
    Calls Tryz.prog 31 [.agg (GDeed.enc Ae).toArray].toArray w (Ret w [] fun _ v _ => v = iV r) := by
 refine f_enter [] [] Tryz.func31 rfl Tryz.ntmps31 rfl (by simp) (by simp [fps]) (by simp [fps]) fun a S => ?_
 unfold tumbref2_DeedFault at h
 replace S := S.nk [] [(0, .agg (GDeed.enc Ae).toArray)] [] rfl ⟨rfl, trivial⟩
 refine Fs (Fg (l_box S (S.tm rfl) (cs := (GDeed.enc Ae)) rfl rfl ?_));clear S;intro a w1 b1 hz1 hk1 S
 refine lv S (Ra rfl) rfl ?_;clear S;intro a S
 refine Ld (Tn (Fs (wp_block (Fs (Fg (lv S (rn_fld fa_39_0 (S.tm rfl)) rfl ?_))))));clear S;intro a S
 refine lv S (rn_load Tryz.isAgg9 (S.tm rfl) (S.cell (i := 0) rfl rfl)) rfl ?_;clear S;intro a S
 obtain ⟨r1, hr1, h⟩ := bindE h
 refine l_enter S (fun _ => run_call (vs := [sV Ae.Site]) ⟨(S.tm rfl), trivial⟩ Tryz.call59) (tumbref2_Key_ok _ Ae.Site _ hr1) rfl ?_;clear S;intro v1 a w2 hv1 hk2 hn1 S
 subst hv1
 refine lv S (rn_not (S.tm rfl)) rfl ?_;clear S;intro a S
 refine lv S (Ra (S.tm rfl)) rfl ?_;clear S;intro a S
 refine Ld (Tn (f_cond (S.tm rfl) (fun hb1 => ?_) (fun hb1 => ?_)))
 ·replace h := iteT h hb1
  refine Fs (Fg (lv S (Ra rfl) rfl ?_));clear S;intro a S
  refine Ld (Tn (wp_ret (blk_r (then_r ?_))))
  obtain rfl := Option.some.inj h
  exact f_ret S Tryz.results31 rfl rfl
 ·replace h := iteF h hb1
  refine Fs (Fg (lv S (rn_fld fa_39_1 (S.tm rfl)) rfl ?_));clear S;intro a S
  refine lv S (rn_load Tryz.isAgg3 (S.tm rfl) (S.cell (i := 0) rfl rfl)) rfl ?_;clear S;intro a S
  refine l_enter S (fun _ => run_call (vs := [iV Ae.No, iV 1, iV 1000000]) ⟨(S.tm rfl), rfl, rfl, trivial⟩ Tryz.call60) (tumbref2_in_ok _ Ae.No 1 1000000 _ rfl) rfl ?_;clear S;intro v2 a w3 hv2 hk3 hn2 S
  subst hv2
  refine lv S (rn_not (S.tm rfl)) rfl ?_;clear S;intro a S
  refine lv S (Rm (S.tm rfl)) rfl ?_;clear S;intro a S
  refine f_cutm 5 (fun a w' => Keep [] w3 w' ∧ Sx w [] nov [.blk b1 (GDeed.enc Ae) 39] [(1, .pointer (some ⟨b1, 0, none⟩)), (19, bV ((!(tumbref2_in Ae.No 1 1000000)) || (!(tumbref2_Moment Ae.At))))] 117 a w') ?_ ?_
  ·rcases Bool.eq_false_or_eq_true (!(tumbref2_in Ae.No 1 1000000)) with hb2 | hb2
   ·iterate 4 (refine l_skip S rfl rfl rfl (neq_t hb2) rfl ?_ rfl;clear S;intro a S)
    refine lv S (rn_or_t (!(tumbref2_Moment Ae.At)) hb2 (S.tm rfl) rfl) rfl ?_;clear S;intro a S
    refine Ld (Tn ?_)
    exact ⟨Keep.refl _ _, S.nf [true] rfl (subR rfl)⟩
   ·refine l_want S rfl rfl rfl hb2 (lv S (rn_fld fa_39_2 (S.tm rfl)) rfl ?_);clear S;intro a S
    refine l_want S rfl rfl rfl hb2 (lv S (rn_load Tryz.isAgg3 (S.tm rfl) (S.cell (i := 0) rfl rfl)) rfl ?_);clear S;intro a S
    refine l_want S rfl rfl rfl hb2 (l_enter S (fun _ => run_call (vs := [iV Ae.At]) ⟨(S.tm rfl), trivial⟩ Tryz.call61) (tumbref2_Moment_ok _ Ae.At _ rfl) rfl ?_);clear S;intro v3 a w5 hv3 hk4 hn3 S
    subst hv3
    refine l_want S rfl rfl rfl hb2 (lv S (rn_not (S.tm rfl)) rfl ?_);clear S;intro a S
    refine lv S (rn_or_f hb2 (S.tm rfl) (S.tm rfl)) rfl ?_;clear S;intro a S
    refine Ld (Tn ?_)
    exact ⟨hk4, S.nf [true] rfl (subR rfl)⟩
  clear S;rintro a w4 ⟨hk5, S⟩
  refine lv S (Ra (S.tm rfl)) rfl ?_;clear S;intro a S
  refine Ld (Tn (f_cond (S.tm rfl) (fun hb3 => ?_) (fun hb3 => ?_)))
  ·replace h := iteT h hb3
   refine Fs (Fg (lv S (Ra rfl) rfl ?_));clear S;intro a S
   refine Ld (Tn (wp_ret (blk_r (then_r ?_))))
   obtain rfl := Option.some.inj h
   exact f_ret S Tryz.results31 rfl rfl
  ·replace h := iteF h hb3
   refine Fs (Fg (lv S (rn_fld fa_39_3 (S.tm rfl)) rfl ?_));clear S;intro a S
   refine lv S (rn_load Tryz.isAgg3 (S.tm rfl) (S.cell (i := 0) rfl rfl)) rfl ?_;clear S;intro a S
   refine l_enter S (fun _ => run_call (vs := [iV Ae.Kind, iV 1, iV 4]) ⟨(S.tm rfl), rfl, rfl, trivial⟩ Tryz.call60) (tumbref2_in_ok _ Ae.Kind 1 4 _ rfl) rfl ?_;clear S;intro v4 a w6 hv4 hk6 hn4 S
   subst hv4
   refine lv S (rn_not (S.tm rfl)) rfl ?_;clear S;intro a S
   refine lv S (Ra (S.tm rfl)) rfl ?_;clear S;intro a S
   refine Ld (Tn (f_cond (S.tm rfl) (fun hb4 => ?_) (fun hb4 => ?_)))
   ·replace h := iteT h hb4
    refine Fs (Fg (lv S (Ra rfl) rfl ?_));clear S;intro a S
    refine Ld (Tn (wp_ret (blk_r (then_r ?_))))
    obtain rfl := Option.some.inj h
    exact f_ret S Tryz.results31 rfl rfl
   ·replace h := iteF h hb4
    refine wp_skip (blk_n (Tn (Fs (Fg (lv S (rn_fld fa_39_0 (S.tm rfl)) rfl ?_)))));clear S;intro a S
    refine lv S (rn_load Tryz.isAgg9 (S.tm rfl) (S.cell (i := 0) rfl rfl)) rfl ?_;clear S;intro a S
    refine lv S (rn_fld fa_39_1 (S.tm rfl)) rfl ?_;clear S;intro a S
    refine lv S (rn_load Tryz.isAgg3 (S.tm rfl) (S.cell (i := 0) rfl rfl)) rfl ?_;clear S;intro a S
    refine lv S (rn_fld fa_39_2 (S.tm rfl)) rfl ?_;clear S;intro a S
    refine lv S (rn_load Tryz.isAgg3 (S.tm rfl) (S.cell (i := 0) rfl rfl)) rfl ?_;clear S;intro a S
    refine lv S (rn_fld fa_39_3 (S.tm rfl)) rfl ?_;clear S;intro a S
    refine lv S (rn_load Tryz.isAgg3 (S.tm rfl) (S.cell (i := 0) rfl rfl)) rfl ?_;clear S;intro a S
    refine lv S (rn_bld bt_39 (pv := [(0, sV Ae.Site), (1, iV Ae.No), (2, iV Ae.At), (3, iV Ae.Kind)]) ⟨rfl, (S.tm rfl), rfl, (S.tm rfl), rfl, (S.tm rfl), rfl, (S.tm rfl), trivial⟩ (cs := [sV Ae.Site, iV Ae.No, iV Ae.At, iV Ae.Kind, sV k_empty, sV k_empty, sV k_empty, iV 0, iV 0, sV k_empty, iV 0]) (by kernel_rfl)) rfl ?_;clear S;intro a S
    refine l_alloc S Tryz.zeroValue39 (cs := [sV k_empty, iV 0, iV 0, iV 0, sV k_empty, sV k_empty, sV k_empty, iV 0, iV 0, sV k_empty, iV 0]) rfl rfl ?_;clear S;intro a w7 b2 hz2 hk7 S
    refine l_store S (S.tm rfl) (S.tm rfl) (i := 0) (off := 0) rfl Tryz.sizeOf39 (vs := (GDeed.enc (GDeed.mk Ae.Site Ae.No Ae.At Ae.Kind k_empty k_empty k_empty 0 0 k_empty 0))) rfl rfl rfl rfl ?_;clear S;intro w8 hk8 S
    refine Ld ?_
    replace S := S.nk [.blk b2 (GDeed.enc (GDeed.mk Ae.Site Ae.No Ae.At Ae.Kind k_empty k_empty k_empty 0 0 k_empty 0)) 39, .blk b1 (GDeed.enc Ae) 39] [(1, .pointer (some ⟨b1, 0, none⟩)), (3, .pointer (some ⟨b2, 0, none⟩))] [true, true] rfl (subR rfl)
    refine Tn (Fs (Fs (Fg (lv S (rn_fld fa_39_3 (S.tm rfl)) rfl ?_))));clear S;intro a S
    refine lv S (rn_load Tryz.isAgg3 (S.tm rfl) (S.cell (i := 1) rfl rfl)) rfl ?_;clear S;intro a S
    refine lv S (rn_eql (S.tm rfl) rfl) rfl ?_;clear S;intro a S
    refine Ld (Tn ?_)
    obtain ⟨j1, hj1, h⟩ := joinE h
    refine f_join (fun a w' => ∃ x1 : ByteArray, ∃ x2 : ByteArray, ∃ x3 : ByteArray, ∃ x4 : Int, j1 x1 x2 x3 x4 = some r ∧ Sx w [] nov [.blk b2 (GDeed.enc (GDeed.mk Ae.Site Ae.No Ae.At Ae.Kind x1 k_empty x2 0 0 x3 x4)) 39, .blk b1 (GDeed.enc Ae) 39] [(1, .pointer (some ⟨b1, 0, none⟩)), (3, .pointer (some ⟨b2, 0, none⟩))] 117 a w') ?_ ?_
    ·refine f_cond (S.tm rfl) (fun hb5 => ?_) (fun hb5 => ?_)
     ·replace h := iteT h hb5
      refine Fs (d_region [] ([b2]) Tryz.mixed S rfl (by kernel_rfl) ?_);clear S;intro w12 hk11 hsel S
      refine d_quiet 0 S hsel rfl rfl rfl (by kernel_rfl) (by kernel_rfl) rfl (fun _ hw => (rn_fld fa_39_9 (S.tm rfl))) ?_;clear S;intro a S
      refine d_quiet 1 S hsel rfl rfl rfl (by kernel_rfl) (by kernel_rfl) rfl (fun _ hw => (rn_ld Tryz.isAgg9 (off := 0) (o := 9) (S.tm rfl) ((S.blk_mem (i := 1) (cells := (GDeed.enc Ae)) (b := b1) (T := 39) rfl (ne_fp (i := 0) (j := 1) (e := .blk b2 (GDeed.enc (GDeed.mk Ae.Site Ae.No Ae.At Ae.Kind k_empty k_empty k_empty 0 0 k_empty 0)) 39) (e' := .blk b1 (GDeed.enc Ae) 39) S rfl rfl rfl)).kept hw) rfl)) ?_;clear S;intro a S
      refine d_quiet 2 S hsel rfl rfl rfl (by kernel_rfl) (by kernel_rfl) rfl (fun _ hw => (rn_fld fa_39_10 (S.tm rfl))) ?_;clear S;intro a S
      refine d_quiet 3 S hsel rfl rfl rfl (by kernel_rfl) (by kernel_rfl) rfl (fun _ hw => (rn_ld Tryz.isAgg3 (off := 0) (o := 10) (S.tm rfl) ((S.blk_mem (i := 1) (cells := (GDeed.enc Ae)) (b := b1) (T := 39) rfl (ne_fp (i := 0) (j := 1) (e := .blk b2 (GDeed.enc (GDeed.mk Ae.Site Ae.No Ae.At Ae.Kind k_empty k_empty k_empty 0 0 k_empty 0)) 39) (e' := .blk b1 (GDeed.enc Ae) 39) S rfl rfl rfl)).kept hw) rfl)) ?_;clear S;intro a S
      refine d_quiet 4 S hsel rfl rfl rfl (by kernel_rfl) (by kernel_rfl) rfl (fun _ hw => (rn_fld fa_39_9 (S.tm rfl))) ?_;clear S;intro a S
      refine d_loud1 5 (by kernel_rfl) rfl (l_store S (S.tm rfl) (S.tm rfl) (i := 0) (off := 9) rfl Tryz.sizeOf9 (vs := [sV Ae.Of]) rfl rfl rfl rfl ?_);clear S;intro w13 hk12 S
      refine Ld (d_next hk12 (d_quiet 6 S hsel rfl rfl rfl (by kernel_rfl) (by kernel_rfl) rfl (fun _ hw => (rn_fld fa_39_10 (S.tm rfl))) ?_));clear S;intro a S
      refine d_loud1 7 (by kernel_rfl) rfl (l_store S (S.tm rfl) (S.tm rfl) (i := 0) (off := 10) rfl Tryz.sizeOf3 (vs := [iV Ae.Other]) rfl rfl rfl rfl ?_);clear S;intro w14 hk13 S
      refine Ld (d_next hk13 (d_end (by kernel_rfl) ?_))
      clear hsel
      replace S := S.nk [.blk b2 (GDeed.enc (GDeed.mk Ae.Site Ae.No Ae.At Ae.Kind k_empty k_empty k_empty 0 0 Ae.Of Ae.Other)) 39, .blk b1 (GDeed.enc Ae) 39] [(1, .pointer (some ⟨b1, 0, none⟩)), (3, .pointer (some ⟨b2, 0, none⟩))] [true, true] rfl (subR rfl)
      refine Tn (Fs (Fs (Fg (lv S (rn_fld fa_39_9 (S.tm rfl)) rfl ?_))));clear S;intro a S
      refine lv S (rn_load Tryz.isAgg9 (S.tm rfl) (S.cell (i := 1) rfl rfl)) rfl ?_;clear S;intro a S
      obtain ⟨r2, hr2, h⟩ := bindE h
      refine l_enter S (fun _ => run_call (vs := [sV Ae.Of]) ⟨(S.tm rfl), trivial⟩ Tryz.call59) (tumbref2_Key_ok _ Ae.Of _ hr2) rfl ?_;clear S;intro v5 a w15 hv5 hk14 hn5 S
      subst hv5
      refine lv S (rn_not (S.tm rfl)) rfl ?_;clear S;intro a S
      refine Ld (Tn (f_cond (S.tm rfl) (fun hb6 => ?_) (fun hb6 => ?_)))
      ·replace h := iteT h hb6
       refine Fs (Fg (lv S (Ra rfl) rfl ?_));clear S;intro a S
       refine Ld (Tn (wp_ret (then_r (then_r (then_r ?_)))))
       obtain rfl := Option.some.inj h
       exact f_ret S Tryz.results31 rfl rfl
      ·replace h := iteF h hb6
       refine wp_skip (Tn (Fs (Fg (lv S (rn_fld fa_39_10 (S.tm rfl)) rfl ?_))));clear S;intro a S
       refine lv S (rn_load Tryz.isAgg3 (S.tm rfl) (S.cell (i := 1) rfl rfl)) rfl ?_;clear S;intro a S
       refine l_enter S (fun _ => run_call (vs := [iV Ae.Other, iV 1, iV 1000000]) ⟨(S.tm rfl), rfl, rfl, trivial⟩ Tryz.call60) (tumbref2_in_ok _ Ae.Other 1 1000000 _ rfl) rfl ?_;clear S;intro v6 a w16 hv6 hk15 hn6 S
       subst hv6
       refine lv S (rn_not (S.tm rfl)) rfl ?_;clear S;intro a S
       refine Ld (Tn (f_cond (S.tm rfl) (fun hb7 => ?_) (fun hb7 => ?_)))
       ·replace h := iteT h hb7
        refine Fs (Fg (lv S (Ra rfl) rfl ?_));clear S;intro a S
        refine Ld (Tn (wp_ret (then_r (then_r ?_))))
        obtain rfl := Option.some.inj h
        exact f_ret S Tryz.results31 rfl rfl
       ·replace h := iteF h hb7
        refine wp_skip (Tn ?_)
        exact ⟨k_empty, k_empty, Ae.Of, Ae.Other, h, S.nf [true, true] rfl (subR rfl)⟩
     ·replace h := iteF h hb5
      refine Fs (d_region [] ([b2]) Tryz.mixed S rfl (by kernel_rfl) ?_);clear S;intro w19 hk18 hsel S
      refine d_quiet 0 S hsel rfl rfl rfl (by kernel_rfl) (by kernel_rfl) rfl (fun _ hw => (rn_fld fa_39_4 (S.tm rfl))) ?_;clear S;intro a S
      refine d_quiet 1 S hsel rfl rfl rfl (by kernel_rfl) (by kernel_rfl) rfl (fun _ hw => (rn_ld Tryz.isAgg9 (off := 0) (o := 4) (S.tm rfl) ((S.blk_mem (i := 1) (cells := (GDeed.enc Ae)) (b := b1) (T := 39) rfl (ne_fp (i := 0) (j := 1) (e := .blk b2 (GDeed.enc (GDeed.mk Ae.Site Ae.No Ae.At Ae.Kind k_empty k_empty k_empty 0 0 k_empty 0)) 39) (e' := .blk b1 (GDeed.enc Ae) 39) S rfl rfl rfl)).kept hw) rfl)) ?_;clear S;intro a S
      refine d_quiet 2 S hsel rfl rfl rfl (by kernel_rfl) (by kernel_rfl) rfl (fun _ hw => (rn_fld fa_39_6 (S.tm rfl))) ?_;clear S;intro a S
      refine d_quiet 3 S hsel rfl rfl rfl (by kernel_rfl) (by kernel_rfl) rfl (fun _ hw => (rn_ld Tryz.isAgg9 (off := 0) (o := 6) (S.tm rfl) ((S.blk_mem (i := 1) (cells := (GDeed.enc Ae)) (b := b1) (T := 39) rfl (ne_fp (i := 0) (j := 1) (e := .blk b2 (GDeed.enc (GDeed.mk Ae.Site Ae.No Ae.At Ae.Kind k_empty k_empty k_empty 0 0 k_empty 0)) 39) (e' := .blk b1 (GDeed.enc Ae) 39) S rfl rfl rfl)).kept hw) rfl)) ?_;clear S;intro a S
      refine d_quiet 4 S hsel rfl rfl rfl (by kernel_rfl) (by kernel_rfl) rfl (fun _ hw => (rn_fld fa_39_4 (S.tm rfl))) ?_;clear S;intro a S
      refine d_loud1 5 (by kernel_rfl) rfl (l_store S (S.tm rfl) (S.tm rfl) (i := 0) (off := 4) rfl Tryz.sizeOf9 (vs := [sV Ae.Who]) rfl rfl rfl rfl ?_);clear S;intro w20 hk19 S
      refine Ld (d_next hk19 (d_quiet 6 S hsel rfl rfl rfl (by kernel_rfl) (by kernel_rfl) rfl (fun _ hw => (rn_fld fa_39_6 (S.tm rfl))) ?_));clear S;intro a S
      refine d_loud1 7 (by kernel_rfl) rfl (l_store S (S.tm rfl) (S.tm rfl) (i := 0) (off := 6) rfl Tryz.sizeOf9 (vs := [sV Ae.Race]) rfl rfl rfl rfl ?_);clear S;intro w21 hk20 S
      refine Ld (d_next hk20 (d_end (by kernel_rfl) ?_))
      clear hsel
      replace S := S.nk [.blk b2 (GDeed.enc (GDeed.mk Ae.Site Ae.No Ae.At Ae.Kind Ae.Who k_empty Ae.Race 0 0 k_empty 0)) 39, .blk b1 (GDeed.enc Ae) 39] [(1, .pointer (some ⟨b1, 0, none⟩)), (3, .pointer (some ⟨b2, 0, none⟩))] [true, true] rfl (subR rfl)
      refine Tn (Fs (Fg (lv S (rn_fld fa_39_4 (S.tm rfl)) rfl ?_)));clear S;intro a S
      refine lv S (rn_load Tryz.isAgg9 (S.tm rfl) (S.cell (i := 1) rfl rfl)) rfl ?_;clear S;intro a S
      obtain ⟨r3, hr3, h⟩ := bindE h
      refine l_enter S (fun _ => run_call (vs := [sV Ae.Who]) ⟨(S.tm rfl), trivial⟩ Tryz.call59) (tumbref2_Key_ok _ Ae.Who _ hr3) rfl ?_;clear S;intro v7 a w22 hv7 hk21 hn7 S
      subst hv7
      refine lv S (rn_not (S.tm rfl)) rfl ?_;clear S;intro a S
      refine lv S (Rm (S.tm rfl)) rfl ?_;clear S;intro a S
      obtain ⟨j2, hj2, h⟩ := joinE h
      refine f_cutm 5 (fun a w' => ∃ c1, j2 c1 = some r ∧ Keep [] w22 w' ∧ Sx w [] nov [.blk b2 (GDeed.enc (GDeed.mk Ae.Site Ae.No Ae.At Ae.Kind Ae.Who k_empty Ae.Race 0 0 k_empty 0)) 39, .blk b1 (GDeed.enc Ae) 39] [(1, .pointer (some ⟨b1, 0, none⟩)), (3, .pointer (some ⟨b2, 0, none⟩)), (66, bV c1)] 117 a w') ?_ ?_
      ·rcases Bool.eq_false_or_eq_true (!r3) with hb8 | hb8
       ·replace h := iteT h hb8
        iterate 4 (refine l_skip S rfl rfl rfl (neq_t hb8) rfl ?_ rfl;clear S;intro a S)
        refine lv S (rn_or_t true hb8 (S.tm rfl) rfl) rfl ?_;clear S;intro a S
        refine Ld (Tn ?_)
        exact ⟨_, h, Keep.refl _ _, S.nf [true, true] rfl (subR rfl)⟩
       ·replace h := iteF h hb8
        refine l_want S rfl rfl rfl hb8 (lv S (rn_fld fa_39_6 (S.tm rfl)) rfl ?_);clear S;intro a S
        refine l_want S rfl rfl rfl hb8 (lv S (rn_load Tryz.isAgg9 (S.tm rfl) (S.cell (i := 1) rfl rfl)) rfl ?_);clear S;intro a S
        refine l_want S rfl rfl rfl hb8 ?_
        obtain ⟨r4, hr4, h⟩ := bindE h
        refine l_enter S (fun _ => run_call (vs := [sV Ae.Race]) ⟨(S.tm rfl), trivial⟩ Tryz.call59) (tumbref2_Key_ok _ Ae.Race _ hr4) rfl ?_;clear S;intro v8 a w24 hv8 hk22 hn8 S
        subst hv8
        refine l_want S rfl rfl rfl hb8 (lv S (rn_not (S.tm rfl)) rfl ?_);clear S;intro a S
        refine lv S (rn_or_f hb8 (S.tm rfl) (S.tm rfl)) rfl ?_;clear S;intro a S
        refine Ld (Tn ?_)
        exact ⟨_, h, hk22, S.nf [true, true] rfl (subR rfl)⟩
      clear S h;rintro a w23 ⟨c1, h, hk23, S⟩;rw [hj2] at h;clear hj2 j2
      refine lv S (Rm (S.tm rfl)) rfl ?_;clear S;intro a S
      obtain ⟨j3, hj3, h⟩ := joinE h
      refine f_cutm 15 (fun a w' => ∃ c2, j3 c2 = some r ∧ Keep [] w23 w' ∧ Sx w [] nov [.blk b2 (GDeed.enc (GDeed.mk Ae.Site Ae.No Ae.At Ae.Kind Ae.Who k_empty Ae.Race 0 0 k_empty 0)) 39, .blk b1 (GDeed.enc Ae) 39] [(1, .pointer (some ⟨b1, 0, none⟩)), (3, .pointer (some ⟨b2, 0, none⟩)), (82, bV c2)] 117 a w') ?_ ?_
      ·rcases Bool.eq_false_or_eq_true c1 with hb9 | hb9
       ·replace h := iteT h hb9
        iterate 4 (refine l_skip S rfl rfl rfl (neq_t hb9) rfl ?_ rfl;clear S;intro a S)
        iterate 3 (refine l_skipU S rfl rfl rfl rfl ?_;clear S;intro a S)
        refine l_skip S rfl rfl rfl (neq_t hb9) rfl ?_ rfl;clear S;intro a S
        refine l_skip S rfl rfl rfl (neq_t hb9) rfl ?_ rfl;clear S;intro a S
        iterate 4 (refine l_skipU S rfl rfl rfl rfl ?_;clear S;intro a S)
        refine l_skip S rfl rfl rfl (neq_t hb9) rfl ?_ rfl;clear S;intro a S
        refine lv S (rn_or_t true hb9 (S.tm rfl) rfl) rfl ?_;clear S;intro a S
        refine Ld (Tn ?_)
        exact ⟨_, h, Keep.refl _ _, S.nf [true, true] rfl (subR rfl)⟩
       ·replace h := iteF h hb9
        refine l_want S rfl rfl rfl hb9 (lv S (rn_fld fa_39_3 (S.tm rfl)) rfl ?_);clear S;intro a S
        refine l_want S rfl rfl rfl hb9 (lv S (rn_load Tryz.isAgg3 (S.tm rfl) (S.cell (i := 1) rfl rfl)) rfl ?_);clear S;intro a S
        refine l_want S rfl rfl rfl hb9 (lv S (rn_eql (S.tm rfl) rfl) rfl ?_);clear S;intro a S
        refine l_want S rfl rfl rfl hb9 (lv S (Rm (S.tm rfl)) rfl ?_);clear S;intro a S
        refine f_cutm 4 (fun a w' => Keep [] w23 w' ∧ Sx w [] nov [.blk b2 (GDeed.enc (GDeed.mk Ae.Site Ae.No Ae.At Ae.Kind Ae.Who k_empty Ae.Race 0 0 k_empty 0)) 39, .blk b1 (GDeed.enc Ae) 39] [(1, .pointer (some ⟨b1, 0, none⟩)), (3, .pointer (some ⟨b2, 0, none⟩)), (67, bV c1), (75, bV ((decide (Ae.Kind = 1)) && (!decide (Ae.Club = k_empty))))] 117 a w') ?_ ?_
        ·rcases Bool.eq_false_or_eq_true (decide (Ae.Kind = 1)) with hb10 | hb10
         ·refine l_want S rfl rfl rfl hb10 (lv S (rn_fld fa_39_5 (S.tm rfl)) rfl ?_);clear S;intro a S
          refine l_want S rfl rfl rfl hb10 (lv S (rn_load Tryz.isAgg9 (S.tm rfl) (S.cell (i := 1) rfl rfl)) rfl ?_);clear S;intro a S
          refine l_want S rfl rfl rfl hb10 (lv S (rn_sneq (S.tm rfl) rfl) rfl ?_);clear S;intro a S
          refine l_want S rfl rfl rfl hb9 (lv S (rn_and_t hb10 (S.tm rfl) (S.tm rfl)) rfl ?_);clear S;intro a S
          refine Ld (Tn ?_)
          exact ⟨Keep.refl _ _, S.nf [true, true] rfl (subR rfl)⟩
         ·iterate 3 (refine l_skip S rfl rfl rfl (neq_f hb10) rfl ?_ rfl;clear S;intro a S)
          refine l_want S rfl rfl rfl hb9 (lv S (rn_and_f (!decide (Ae.Club = k_empty)) hb10 (S.tm rfl) rfl) rfl ?_);clear S;intro a S
          refine Ld (Tn ?_)
          exact ⟨Keep.refl _ _, S.nf [true, true] rfl (subR rfl)⟩
        clear S;rintro a w26 ⟨hk24, S⟩
        refine l_want S rfl rfl rfl hb9 (lv S (Rm (S.tm rfl)) rfl ?_);clear S;intro a S
        obtain ⟨j4, hj4, h⟩ := joinE h
        refine f_cutm 5 (fun a w' => ∃ c3, j4 c3 = some r ∧ Keep [] w26 w' ∧ Sx w [] nov [.blk b2 (GDeed.enc (GDeed.mk Ae.Site Ae.No Ae.At Ae.Kind Ae.Who k_empty Ae.Race 0 0 k_empty 0)) 39, .blk b1 (GDeed.enc Ae) 39] [(1, .pointer (some ⟨b1, 0, none⟩)), (3, .pointer (some ⟨b2, 0, none⟩)), (67, bV c1), (81, bV c3)] 117 a w') ?_ ?_
        ·rcases Bool.eq_false_or_eq_true ((decide (Ae.Kind = 1)) && (!decide (Ae.Club = k_empty))) with hb11 | hb11
         ·replace h := iteT h hb11
          refine l_want S rfl rfl rfl hb11 (lv S (rn_fld fa_39_5 (S.tm rfl)) rfl ?_);clear S;intro a S
          refine l_want S rfl rfl rfl hb11 (lv S (rn_load Tryz.isAgg9 (S.tm rfl) (S.cell (i := 1) rfl rfl)) rfl ?_);clear S;intro a S
          refine l_want S rfl rfl rfl hb11 ?_
          obtain ⟨r5, hr5, h⟩ := bindE h
          refine l_enter S (fun _ => run_call (vs := [sV Ae.Club]) ⟨(S.tm rfl), trivial⟩ Tryz.call59) (tumbref2_Key_ok _ Ae.Club _ hr5) rfl ?_;clear S;intro v9 a w28 hv9 hk25 hn9 S
          subst hv9
          refine l_want S rfl rfl rfl hb11 (lv S (rn_not (S.tm rfl)) rfl ?_);clear S;intro a S
          refine l_want S rfl rfl rfl hb9 (lv S (rn_and_t hb11 (S.tm rfl) (S.tm rfl)) rfl ?_);clear S;intro a S
          refine Ld (Tn ?_)
          exact ⟨_, h, hk25, S.nf [true, true] rfl (subR rfl)⟩
         ·replace h := iteF h hb11
          iterate 4 (refine l_skip S rfl rfl rfl (neq_f hb11) rfl ?_ rfl;clear S;intro a S)
          refine l_want S rfl rfl rfl hb9 (lv S (rn_and_f true hb11 (S.tm rfl) rfl) rfl ?_);clear S;intro a S
          refine Ld (Tn ?_)
          exact ⟨_, h, Keep.refl _ _, S.nf [true, true] rfl (subR rfl)⟩
        clear S h;rintro a w27 ⟨c3, h, hk26, S⟩;rw [hj4] at h;clear hj4 j4
        refine lv S (rn_or_f hb9 (S.tm rfl) (S.tm rfl)) rfl ?_;clear S;intro a S
        refine Ld (Tn ?_)
        exact ⟨_, h, (hk24).trans hk26, S.nf [true, true] rfl (subR rfl)⟩
      clear S h;rintro a w25 ⟨c2, h, hk27, S⟩;rw [hj3] at h;clear hj3 j3
      refine Ld (Tn (f_cond (S.tm rfl) (fun hb12 => ?_) (fun hb12 => ?_)))
      ·replace h := iteT h hb12
       refine Fs (Fg (lv S (Ra rfl) rfl ?_));clear S;intro a S
       refine Ld (Tn (wp_ret (then_r (then_r ?_))))
       obtain rfl := Option.some.inj h
       exact f_ret S Tryz.results31 rfl rfl
      ·replace h := iteF h hb12
       refine wp_skip (Tn ?_)
       exact ⟨Ae.Who, Ae.Race, k_empty, 0, h, S.nf [true, true] rfl (subR rfl)⟩
    clear S h;rintro a w9 ⟨x1, x2, x3, x4, h, S⟩;rw [hj1] at h;clear hj1 j1
    refine Tn (Fs (Fs (Fg (lv S (rn_fld fa_39_3 (S.tm rfl)) rfl ?_))));clear S;intro a S
    refine lv S (rn_load Tryz.isAgg3 (S.tm rfl) (S.cell (i := 1) rfl rfl)) rfl ?_;clear S;intro a S
    refine lv S (rn_eql (S.tm rfl) rfl) rfl ?_;clear S;intro a S
    refine Ld (Tn ?_)
    obtain ⟨j5, hj5, h⟩ := joinE h
    refine f_join (fun a w' => ∃ x5 : ByteArray, j5 x5 = some r ∧ Sx w [] nov [.blk b2 (GDeed.enc (GDeed.mk Ae.Site Ae.No Ae.At Ae.Kind x1 x5 x2 0 0 x3 x4)) 39, .blk b1 (GDeed.enc Ae) 39] [(1, .pointer (some ⟨b1, 0, none⟩)), (3, .pointer (some ⟨b2, 0, none⟩))] 117 a w') ?_ ?_
    ·refine f_cond (S.tm rfl) (fun hb13 => ?_) (fun hb13 => ?_)
     ·replace h := iteT h hb13
      refine Fg (lv S (rn_fld fa_39_5 (S.tm rfl)) rfl ?_);clear S;intro a S
      refine lv S (rn_load Tryz.isAgg9 (S.tm rfl) (S.cell (i := 1) rfl rfl)) rfl ?_;clear S;intro a S
      refine lv S (rn_fld fa_39_5 (S.tm rfl)) rfl ?_;clear S;intro a S
      refine l_store S (S.tm rfl) (S.tm rfl) (i := 0) (off := 5) rfl Tryz.sizeOf9 (vs := [sV Ae.Club]) rfl rfl rfl rfl ?_;clear S;intro w30 hk28 S
      refine Ld (Tn ?_)
      exact ⟨Ae.Club, h, S.nf [true, true] rfl (subR rfl)⟩
     ·replace h := iteF h hb13
      refine wp_skip (Tn ?_)
      exact ⟨k_empty, h, S.nf [true, true] rfl (subR rfl)⟩
    clear S h;rintro a w29 ⟨x5, h, S⟩;rw [hj5] at h;clear hj5 j5
    refine Tn (Fs (Fs (Fg (lv S (rn_fld fa_39_3 (S.tm rfl)) rfl ?_))));clear S;intro a S
    refine lv S (rn_load Tryz.isAgg3 (S.tm rfl) (S.cell (i := 1) rfl rfl)) rfl ?_;clear S;intro a S
    refine lv S (rn_eql (S.tm rfl) rfl) rfl ?_;clear S;intro a S
    refine lv S (Rm (S.tm rfl)) rfl ?_;clear S;intro a S
    refine f_cutm 4 (fun a w' => Keep [] w29 w' ∧ Sx w [] nov [.blk b2 (GDeed.enc (GDeed.mk Ae.Site Ae.No Ae.At Ae.Kind x1 x5 x2 0 0 x3 x4)) 39, .blk b1 (GDeed.enc Ae) 39] [(1, .pointer (some ⟨b1, 0, none⟩)), (3, .pointer (some ⟨b2, 0, none⟩)), (96, bV ((decide (Ae.Kind = 1)) || (decide (Ae.Kind = 3))))] 117 a w') ?_ ?_
    ·rcases Bool.eq_false_or_eq_true (decide (Ae.Kind = 1)) with hb14 | hb14
     ·iterate 3 (refine l_skip S rfl rfl rfl (neq_t hb14) rfl ?_ rfl;clear S;intro a S)
      refine lv S (rn_or_t (decide (Ae.Kind = 3)) hb14 (S.tm rfl) rfl) rfl ?_;clear S;intro a S
      refine Ld (Tn ?_)
      exact ⟨Keep.refl _ _, S.nf [true, true] rfl (subR rfl)⟩
     ·refine l_want S rfl rfl rfl hb14 (lv S (rn_fld fa_39_3 (S.tm rfl)) rfl ?_);clear S;intro a S
      refine l_want S rfl rfl rfl hb14 (lv S (rn_load Tryz.isAgg3 (S.tm rfl) (S.cell (i := 1) rfl rfl)) rfl ?_);clear S;intro a S
      refine l_want S rfl rfl rfl hb14 (lv S (rn_eql (S.tm rfl) rfl) rfl ?_);clear S;intro a S
      refine lv S (rn_or_f hb14 (S.tm rfl) (S.tm rfl)) rfl ?_;clear S;intro a S
      refine Ld (Tn ?_)
      exact ⟨Keep.refl _ _, S.nf [true, true] rfl (subR rfl)⟩
    clear S;rintro a w31 ⟨hk29, S⟩
    refine Ld (Tn ?_)
    obtain ⟨j6, hj6, h⟩ := joinE h
    refine f_join (fun a w' => ∃ x6 : Int, j6 x6 = some r ∧ Sx w [] nov [.blk b2 (GDeed.enc (GDeed.mk Ae.Site Ae.No Ae.At Ae.Kind x1 x5 x2 x6 0 x3 x4)) 39, .blk b1 (GDeed.enc Ae) 39] [(1, .pointer (some ⟨b1, 0, none⟩)), (3, .pointer (some ⟨b2, 0, none⟩))] 117 a w') ?_ ?_
    ·refine f_cond (S.tm rfl) (fun hb15 => ?_) (fun hb15 => ?_)
     ·replace h := iteT h hb15
      refine Fs (Fg (lv S (rn_fld fa_39_7 (S.tm rfl)) rfl ?_));clear S;intro a S
      refine lv S (rn_load Tryz.isAgg3 (S.tm rfl) (S.cell (i := 1) rfl rfl)) rfl ?_;clear S;intro a S
      refine lv S (rn_fld fa_39_7 (S.tm rfl)) rfl ?_;clear S;intro a S
      refine l_store S (S.tm rfl) (S.tm rfl) (i := 0) (off := 7) rfl Tryz.sizeOf3 (vs := [iV Ae.Time]) rfl rfl rfl rfl ?_;clear S;intro w33 hk30 S
      refine Ld (Tn (Fs (Fg (lv S (rn_fld fa_39_7 (S.tm rfl)) rfl ?_))));clear S;intro a S
      refine lv S (rn_load Tryz.isAgg3 (S.tm rfl) (S.cell (i := 1) rfl rfl)) rfl ?_;clear S;intro a S
      refine l_enter S (fun _ => run_call (vs := [iV Ae.Time, iV 0, iV 360000]) ⟨(S.tm rfl), rfl, rfl, trivial⟩ Tryz.call60) (tumbref2_in_ok _ Ae.Time 0 360000 _ rfl) rfl ?_;clear S;intro v10 a w34 hv10 hk31 hn10 S
      subst hv10
      refine lv S (rn_not (S.tm rfl)) rfl ?_;clear S;intro a S
      refine Ld (Tn (f_cond (S.tm rfl) (fun hb16 => ?_) (fun hb16 => ?_)))
      ·replace h := iteT h hb16
       refine Fs (Fg (lv S (Ra rfl) rfl ?_));clear S;intro a S
       refine Ld (Tn (wp_ret (then_r (then_r ?_))))
       obtain rfl := Option.some.inj h
       exact f_ret S Tryz.results31 rfl rfl
      ·replace h := iteF h hb16
       refine wp_skip (Tn ?_)
       exact ⟨Ae.Time, h, S.nf [true, true] rfl (subR rfl)⟩
     ·replace h := iteF h hb15
      refine wp_skip (Tn ?_)
      exact ⟨0, h, S.nf [true, true] rfl (subR rfl)⟩
    clear S h;rintro a w32 ⟨x6, h, S⟩;rw [hj6] at h;clear hj6 j6
    refine Tn (Fs (Fs (Fg (lv S (rn_fld fa_39_3 (S.tm rfl)) rfl ?_))));clear S;intro a S
    refine lv S (rn_load Tryz.isAgg3 (S.tm rfl) (S.cell (i := 1) rfl rfl)) rfl ?_;clear S;intro a S
    refine lv S (rn_eql (S.tm rfl) rfl) rfl ?_;clear S;intro a S
    refine Ld (Tn ?_)
    obtain ⟨j7, hj7, h⟩ := joinE h
    refine f_join (fun a w' => ∃ x7 : Int, j7 x7 = some r ∧ Sx w [] nov [.blk b2 (GDeed.enc (GDeed.mk Ae.Site Ae.No Ae.At Ae.Kind x1 x5 x2 x6 x7 x3 x4)) 39, .blk b1 (GDeed.enc Ae) 39] [(1, .pointer (some ⟨b1, 0, none⟩)), (3, .pointer (some ⟨b2, 0, none⟩))] 117 a w') ?_ ?_
    ·refine f_cond (S.tm rfl) (fun hb17 => ?_) (fun hb17 => ?_)
     ·replace h := iteT h hb17
      refine Fs (Fg (lv S (rn_fld fa_39_8 (S.tm rfl)) rfl ?_));clear S;intro a S
      refine lv S (rn_load Tryz.isAgg3 (S.tm rfl) (S.cell (i := 1) rfl rfl)) rfl ?_;clear S;intro a S
      refine lv S (rn_fld fa_39_8 (S.tm rfl)) rfl ?_;clear S;intro a S
      refine l_store S (S.tm rfl) (S.tm rfl) (i := 0) (off := 8) rfl Tryz.sizeOf3 (vs := [iV Ae.Fault]) rfl rfl rfl rfl ?_;clear S;intro w36 hk32 S
      refine Ld (Tn (Fs (Fg (lv S (rn_fld fa_39_8 (S.tm rfl)) rfl ?_))));clear S;intro a S
      refine lv S (rn_load Tryz.isAgg3 (S.tm rfl) (S.cell (i := 1) rfl rfl)) rfl ?_;clear S;intro a S
      refine l_enter S (fun _ => run_call (vs := [iV Ae.Fault, iV 0, iV 8]) ⟨(S.tm rfl), rfl, rfl, trivial⟩ Tryz.call60) (tumbref2_in_ok _ Ae.Fault 0 8 _ rfl) rfl ?_;clear S;intro v11 a w37 hv11 hk33 hn11 S
      subst hv11
      refine lv S (rn_not (S.tm rfl)) rfl ?_;clear S;intro a S
      refine Ld (Tn (f_cond (S.tm rfl) (fun hb18 => ?_) (fun hb18 => ?_)))
      ·replace h := iteT h hb18
       refine Fs (Fg (lv S (Ra rfl) rfl ?_));clear S;intro a S
       refine Ld (Tn (wp_ret (then_r (then_r ?_))))
       obtain rfl := Option.some.inj h
       exact f_ret S Tryz.results31 rfl rfl
      ·replace h := iteF h hb18
       refine wp_skip (Tn ?_)
       exact ⟨Ae.Fault, h, S.nf [true, true] rfl (subR rfl)⟩
     ·replace h := iteF h hb17
      refine wp_skip (Tn ?_)
      exact ⟨0, h, S.nf [true, true] rfl (subR rfl)⟩
    clear S h;rintro a w35 ⟨x7, h, S⟩;rw [hj7] at h;clear hj7 j7
    refine Tn (Fs (Fs (Fg (lv S (rn_ldA Tryz.isAgg39 Tryz.sizeOf39 (off := 0) (o := 0) (part := (GDeed.enc Ae)) rfl rfl (S.tm rfl) (S.cellsAt (i := 1) rfl)) rfl ?_))));clear S;intro a S
    refine lv S (rn_ldA Tryz.isAgg39 Tryz.sizeOf39 (off := 0) (o := 0) (part := (GDeed.enc (GDeed.mk Ae.Site Ae.No Ae.At Ae.Kind x1 x5 x2 x6 x7 x3 x4))) rfl rfl (S.tm rfl) (S.cellsAt (i := 0) rfl)) rfl ?_;clear S;intro a S
    refine lv S (rn_neq_39 (m := Ae) (n := (GDeed.mk Ae.Site Ae.No Ae.At Ae.Kind x1 x5 x2 x6 x7 x3 x4)) (S.tm rfl) (S.tm rfl)) rfl ?_;clear S;intro a S
    refine Ld (Tn (f_cond (S.tm rfl) (fun hb19 => ?_) (fun hb19 => ?_)))
    ·replace h := iteT h hb19
     refine Fs (Fg (lv S (Ra rfl) rfl ?_));clear S;intro a S
     refine Ld (Tn (wp_ret (then_r ?_)))
     obtain rfl := Option.some.inj h
     exact f_ret S Tryz.results31 rfl rfl
    ·replace h := iteF h hb19
     refine wp_skip (Tn (Fs (Fg (lv S (Ra rfl) rfl ?_))));clear S;intro a S
     refine Ld (Tn (wp_ret ?_))
     obtain rfl := Option.some.inj h
     exact f_ret S Tryz.results31 rfl rfl
theorem tumbref2_sameNo_ok (w : World) (Aq : GDeed) (Ar : GDeed) (r : Bool) (h : tumbref2_sameNo Aq Ar = r) :
    Calls Tryz.prog 34 [.agg (GDeed.enc Aq).toArray, .agg (GDeed.enc Ar).toArray].toArray w (Ret w [] fun _ v _ => v = bV r) := by
 refine f_enter [] [] Tryz.func34 rfl Tryz.ntmps34 rfl (by simp) (by simp [fps]) (by simp [fps]) fun a S => ?_
 unfold tumbref2_sameNo at h
 replace S := S.nk [] [(0, .agg (GDeed.enc Aq).toArray), (1, .agg (GDeed.enc Ar).toArray)] [] rfl (subR rfl)
 refine Fs (Fg (l_box S (S.tm rfl) (cs := (GDeed.enc Aq)) rfl rfl ?_));clear S;intro a w1 b1 hz1 hk1 S
 refine l_box S (S.tm rfl) (cs := (GDeed.enc Ar)) rfl rfl ?_;clear S;intro a w2 b2 hz2 hk2 S
 refine lv S (Ra rfl) rfl ?_;clear S;intro a S
 refine Ld (Tn (Fs (Fg (lv S (rn_fld fa_39_0 (S.tm rfl)) rfl ?_))));clear S;intro a S
 refine lv S (rn_load Tryz.isAgg9 (S.tm rfl) (S.cell (i := 1) rfl rfl)) rfl ?_;clear S;intro a S
 refine lv S (rn_fld fa_39_0 (S.tm rfl)) rfl ?_;clear S;intro a S
 refine lv S (rn_load Tryz.isAgg9 (S.tm rfl) (S.cell (i := 0) rfl rfl)) rfl ?_;clear S;intro a S
 refine lv S (rn_seql (S.tm rfl) (S.tm rfl)) rfl ?_;clear S;intro a S
 refine lv S (Rm (S.tm rfl)) rfl ?_;clear S;intro a S
 refine f_cutm 6 (fun a w' => Keep [] w2 w' ∧ Sx w [] nov [.blk b2 (GDeed.enc Ar) 39, .blk b1 (GDeed.enc Aq) 39] [(16, bV ((decide (Aq.Site = Ar.Site)) && (decide (Aq.No = Ar.No))))] 17 a w') ?_ ?_
 ·rcases Bool.eq_false_or_eq_true (decide (Aq.Site = Ar.Site)) with hb1 | hb1
  ·refine l_want S rfl rfl rfl hb1 (lv S (rn_fld fa_39_1 (S.tm rfl)) rfl ?_);clear S;intro a S
   refine l_want S rfl rfl rfl hb1 (lv S (rn_load Tryz.isAgg3 (S.tm rfl) (S.cell (i := 1) rfl rfl)) rfl ?_);clear S;intro a S
   refine l_want S rfl rfl rfl hb1 (lv S (rn_fld fa_39_1 (S.tm rfl)) rfl ?_);clear S;intro a S
   refine l_want S rfl rfl rfl hb1 (lv S (rn_load Tryz.isAgg3 (S.tm rfl) (S.cell (i := 0) rfl rfl)) rfl ?_);clear S;intro a S
   refine l_want S rfl rfl rfl hb1 (lv S (rn_eql (S.tm rfl) (S.tm rfl)) rfl ?_);clear S;intro a S
   refine lv S (rn_and_t hb1 (S.tm rfl) (S.tm rfl)) rfl ?_;clear S;intro a S
   refine Ld (Tn ?_)
   exact ⟨Keep.refl _ _, S.nf [true, true] rfl ⟨rfl, trivial⟩⟩
  ·iterate 5 (refine l_skip S rfl rfl rfl (neq_f hb1) rfl ?_ rfl;clear S;intro a S)
   refine lv S (rn_and_f (decide (Aq.No = Ar.No)) hb1 (S.tm rfl) rfl) rfl ?_;clear S;intro a S
   refine Ld (Tn ?_)
   exact ⟨Keep.refl _ _, S.nf [true, true] rfl ⟨rfl, trivial⟩⟩
 clear S;rintro a w3 ⟨hk3, S⟩
 refine lv S (Ra (S.tm rfl)) rfl ?_;clear S;intro a S
 refine Ld (Tn (wp_ret ?_))
 subst h
 exact f_ret S Tryz.results34 rfl rfl
theorem tumbref2_DeedsFault_c1_ok (w : World) (Df : GDeed) (Aj : Nat) (Al : GDeed) (Ck : (view w []) Aj = some (.cells [sV Al.Site, iV Al.No, iV Al.At, iV Al.Kind, sV Al.Who, sV Al.Club, sV Al.Race, iV Al.Time, iV Al.Fault, sV Al.Of, iV Al.Other].toArray 39 (0, 0))) (r : Bool) (h : tumbref2_DeedsFault_c1 Df Al = r) :
    Calls Tryz.prog 33 [.agg (GDeed.enc Df).toArray, .pointer (some ⟨Aj, 0, none⟩)].toArray w (Ret w [] fun _ v _ => v = bV r) := by
 refine f_enter [] [] Tryz.func33 rfl Tryz.ntmps33 rfl (by simp) (by simp [fps]) (by simp [fps]) fun a S => ?_
 unfold tumbref2_DeedsFault_c1 at h
 replace S := S.nk [] [(0, .agg (GDeed.enc Df).toArray), (1, .pointer (some ⟨Aj, 0, none⟩))] [] rfl (subR rfl)
 refine Fs (Fg (l_box S (S.tm rfl) (cs := (GDeed.enc Df)) rfl rfl ?_));clear S;intro a w1 b1 hz1 hk1 S
 refine lv S (Ra rfl) rfl ?_;clear S;intro a S
 refine Ld (Tn (Fs (Fg (lv S (rn_ldA Tryz.isAgg39 Tryz.sizeOf39 (off := 0) (o := 0) (part := (GDeed.enc Df)) rfl rfl (S.tm rfl) (S.cellsAt (i := 0) rfl)) rfl ?_))));clear S;intro a S
 refine lv S (rn_ldA Tryz.isAgg39 Tryz.sizeOf39 (off := 0) (o := 0) (part := (GDeed.enc Al)) rfl rfl (S.tm rfl) ((mem_blk Ck).at S.emb0)) rfl ?_;clear S;intro a S
 refine l_enter S (fun _ => run_call (vs := [.agg (GDeed.enc Df).toArray, .agg (GDeed.enc Al).toArray]) ⟨(S.tm rfl), (S.tm rfl), trivial⟩ Tryz.call34) (tumbref2_sameNo_ok _ Df Al _ rfl) rfl ?_;clear S;intro v1 a w2 hv1 hk2 hn1 S
 subst hv1
 refine lv S (Ra (S.tm rfl)) rfl ?_;clear S;intro a S
 refine Ld (Tn (wp_ret ?_))
 subst h
 exact f_ret S Tryz.results33 rfl rfl
theorem slices_IndexFunc_Deed_tumbref2_DeedsFault_c1_ok (w : World) (Am : Value) (Ad : List GDeed) (By : Slc (view w []) 11 Am (Ad.map GDeed.enc)) (Au : Nat) (Av : GDeed) (Cc : (view w []) Au = some (.cells [sV Av.Site, iV Av.No, iV Av.At, iV Av.Kind, sV Av.Who, sV Av.Club, sV Av.Race, iV Av.Time, iV Av.Fault, sV Av.Of, iV Av.Other].toArray 39 (0, 0))) (r : Int) (h : slices_IndexFunc_Deed_tumbref2_DeedsFault_c1 Ad Av = r) :
    Calls Tryz.prog 62 [Am, .func (.func 33) #[] #[.pointer (some ⟨Au, 0, none⟩)]].toArray w (Ret w [] fun _ v _ => v = iV r) := by
 refine f_enter [] [] Tryz.func62 rfl Tryz.ntmps62 rfl (by simp) (by simp [fps]) (by simp [fps]) fun a S => ?_
 unfold slices_IndexFunc_Deed_tumbref2_DeedsFault_c1 at h
 replace S := S.nk [] [(0, Am), (1, .func (.func 33) #[] #[.pointer (some ⟨Au, 0, none⟩)])] [] rfl (subR rfl)
 refine Fs (Fg (lv S (Ra rfl) rfl ?_));clear S;intro a S
 refine Ld (Tn (Fs (Fs (Fg (lv S (Rm (S.tm rfl)) rfl ?_)))));clear S;intro a S
 refine lv S (rn_lenT sl_26 (S.tm rfl) (slc_len By)) rfl ?_;clear S;intro a S
 refine lv S (Rm rfl) rfl ?_;clear S;intro a S
 refine Ld (Tn ?_)
 replace S := S.nk [] [(0, Am), (1, .func (.func 33) #[] #[.pointer (some ⟨Au, 0, none⟩)]), (7, iV (Ad.length : Int)), (8, iV 0)] [] rfl (subR rfl)
 obtain ⟨j1, hj1, h⟩ := joinE h
 refine f_join (fun a w' => j1 = r ∧ Sx w [] nov [] [] 19 a w') ?_ ?_
 ·refine wp_block (f_loop (fun (ys1 : List GDeed) a w' => ∃ i1 : Nat, (∃ dn, Ad = dn ++ ys1 ∧ dn.length = i1) ∧ slices_IndexFunc_Deed_tumbref2_DeedsFault_c1_l1 Av j1 ys1 i1 = r ∧ Sx w [] nov [] [(0, Am), (1, .func (.func 33) #[] #[.pointer (some ⟨Au, 0, none⟩)]), (7, iV (Ad.length : Int)), (8, iV (i1 : Int))] 19 a w') List.length Ad ⟨0, ⟨[], rfl, rfl⟩, h, S.nf [] rfl (subR rfl)⟩ ?_)
  clear S h;rintro ys1 a w1 ⟨i1, ⟨dn, hd1, hi1⟩, h, S⟩
  cases ys1 with
  | nil =>
   rw [slices_IndexFunc_Deed_tumbref2_DeedsFault_c1_l1.eq_1] at h
   refine Fs (Fg (lv S (rn_lss (S.tm rfl) (S.tm rfl)) rfl ?_));clear S;intro a S
   refine Ld ?_
   replace S := S.nk [] [(0, Am), (1, .func (.func 33) #[] #[.pointer (some ⟨Au, 0, none⟩)]), (7, iV (Ad.length : Int)), (8, iV (i1 : Int)), (9, bV (decide ((i1 : Int) < (Ad.length : Int))))] [] rfl (subR rfl)
   refine Tn (Fs (wp_cond_false ((S.tm rfl).trans (congrArg Value.bool (rng_nil hd1 hi1))) (wp_exit (then_x (then_x (x_same ?_))))))
   refine Tn ?_
   exact ⟨h, S.nf [] rfl trivial⟩
  | cons y1 ys1 =>
   rw [slices_IndexFunc_Deed_tumbref2_DeedsFault_c1_l1.eq_2] at h
   refine Fs (Fg (lv S (rn_lss (S.tm rfl) (S.tm rfl)) rfl ?_));clear S;intro a S
   refine Ld ?_
   replace S := S.nk [] [(0, Am), (1, .func (.func 33) #[] #[.pointer (some ⟨Au, 0, none⟩)]), (7, iV (Ad.length : Int)), (8, iV (i1 : Int)), (9, bV (decide ((i1 : Int) < (Ad.length : Int))))] [] rfl (subR rfl)
   refine Tn (Fs (wp_cond_true ((S.tm rfl).trans (congrArg Value.bool (rng_cons hd1 hi1))) (wp_skip (Tn (Fs (wp_block ?_))))))
   refine Fs (Fg (lv S (Rm (S.tm rfl)) rfl ?_));clear S;intro a S
   refine lv S (Ra (S.tm rfl)) rfl ?_;clear S;intro a S
   refine Ld (Tn (Fs (Fg (lv S (Rm (S.tm rfl)) rfl ?_))));clear S;intro a S
   refine lv S (Rm (S.tm rfl)) rfl ?_;clear S;intro a S
   refine lv S (Rm (S.tm rfl)) rfl ?_;clear S;intro a S
   obtain ⟨b1, o1, hm1, hr1⟩ := rn_indexT (a := a) (x := .tmp 12) (y := .tmp 13) (ty := 0) sl_26 By (get_mid hd1 hi1) rfl (S.tm rfl) (S.tm rfl)
   refine lv S (hr1 _) rfl ?_;clear S;intro a S
   clear hr1
   refine lv S (rn_ldA Tryz.isAgg39 Tryz.sizeOf39 (off := o1) (o := 0) (part := (GDeed.enc y1)) rfl rfl (S.tm rfl) (hm1.at S.emb0)) rfl ?_;clear S;intro a S
   refine l_enter S (fun _ => run_callV (cap := [.pointer (some ⟨Au, 0, none⟩)]) (S.tm rfl) (vs := [.agg (GDeed.enc y1).toArray]) ⟨(S.tm rfl), trivial⟩ Tryz.call33) (tumbref2_DeedsFault_c1_ok _ y1 Au Av ((S.le_arg nil_sub) _ _ Cc) _ rfl) rfl ?_;clear S;intro v1 a w3 hv1 hk1 hn1 S
   subst hv1
   refine Ld (Tn (f_cond (S.tm rfl) (fun hb1 => ?_) (fun hb1 => ?_)))
   ·replace h := iteT h hb1
    refine Fs (Fg (lv S (Rm (S.tm rfl)) rfl ?_));clear S;intro a S
    refine lv S (Ra (S.tm rfl)) rfl ?_;clear S;intro a S
    refine Ld ?_
    replace S := S.nk [] [(4, iV (i1 : Int))] [] rfl ⟨rfl, trivial⟩
    refine Tn (wp_ret (blk_r (then_r (then_r (blk_r (then_r ?_))))))
    refine then_r ?_
    subst h
    exact f_ret S Tryz.results62 rfl rfl
   ·replace h := iteF h hb1
    refine wp_skip (blk_n (Tn (Fg (lv S (rn_add (S.tm rfl) rfl) rfl ?_))));clear S;intro a S
    refine lv S (Rm (S.tm rfl)) rfl ?_;clear S;intro a S
    refine Ld (Tn ?_)
    exact ⟨ys1, ⟨i1 + 1, ⟨_, (hd1).trans (List.append_cons _ _ _), by simp [hi1]⟩, h, S.nf [] rfl ⟨rfl, rfl, rfl, (congrArg (fun z => some (Value.int .i64 z)) (rng_next hd1 hi1 (slc_max By))), trivial⟩⟩, Nat.lt_succ_self _⟩
 clear S h;rintro a w2 ⟨h, S⟩;rw [hj1] at h;clear hj1 j1
 refine Tn (Fs (Fg (lv S (Ra rfl) rfl ?_)));clear S;intro a S
 refine Ld (Tn (wp_ret ?_))
 subst h
 exact f_ret S Tryz.results62 rfl rfl
theorem slices_ContainsFunc_Deed_tumbref2_DeedsFault_c1_ok (w : World) (Am : Value) (Ad : List GDeed) (By : Slc (view w []) 11 Am (Ad.map GDeed.enc)) (Au : Nat) (Av : GDeed) (Cc : (view w []) Au = some (.cells [sV Av.Site, iV Av.No, iV Av.At, iV Av.Kind, sV Av.Who, sV Av.Club, sV Av.Race, iV Av.Time, iV Av.Fault, sV Av.Of, iV Av.Other].toArray 39 (0, 0))) (r : Bool) (h : slices_ContainsFunc_Deed_tumbref2_DeedsFault_c1 Ad Av = r) :
    Calls Tryz.prog 32 [Am, .func (.func 33) #[] #[.pointer (some ⟨Au, 0, none⟩)]].toArray w (Ret w [] fun _ v _ => v = bV r) := by
 refine f_enter [] [] Tryz.func32 rfl Tryz.ntmps32 rfl (by simp) (by simp [fps]) (by simp [fps]) fun a S => ?_
 unfold slices_ContainsFunc_Deed_tumbref2_DeedsFault_c1 at h
 replace S := S.nk [] [(0, Am), (1, .func (.func 33) #[] #[.pointer (some ⟨Au, 0, none⟩)])] [] rfl (subR rfl)
 refine Fs (Fg (lv S (Ra rfl) rfl ?_));clear S;intro a S
 refine Ld (Tn (Fs (Fg (lv S (Rm (S.tm rfl)) rfl ?_))));clear S;intro a S
 refine lv S (Rm (S.tm rfl)) rfl ?_;clear S;intro a S
 refine l_enter S (fun _ => run_call (vs := [Am, .func (.func 33) #[] #[.pointer (some ⟨Au, 0, none⟩)]]) ⟨(S.tm rfl), (S.tm rfl), trivial⟩ Tryz.call62) (slices_IndexFunc_Deed_tumbref2_DeedsFault_c1_ok _ Am Ad (By.mono (S.le_arg nil_sub)) Au Av ((S.le_arg nil_sub) _ _ Cc) _ rfl) rfl ?_;clear S;intro v1 a w1 hv1 hk1 hn1 S
 subst hv1
 refine lv S (rn_geq (S.tm rfl) rfl) rfl ?_;clear S;intro a S
 refine lv S (Ra (S.tm rfl)) rfl ?_;clear S;intro a S
 refine Ld (Tn (wp_ret ?_))
 subst h
 exact f_ret S Tryz.results32 rfl rfl
set_option maxRecDepth 20000 in
theorem tumbref2_DeedsFault_ok (w : World) (Ab : Value) (Ac : List GDeed) (Ao : Slc (view w []) 11 Ab (Ac.map GDeed.enc)) (r : Int) (h : tumbref2_DeedsFault Ac = some r) :
    Calls Tryz.prog 8 [Ab].toArray w (Ret w [] fun _ v _ => v = iV r) := by
 refine f_enter [] [] Tryz.func8 rfl Tryz.ntmps8 rfl (by simp) (by simp [fps]) (by simp [fps]) fun a S => ?_
 unfold tumbref2_DeedsFault at h
 replace S := S.nk [] [(0, Ab)] [] rfl ⟨rfl, trivial⟩
 refine Fs (Fg (lv S (Ra rfl) rfl ?_));clear S;intro a S
 refine Ld (Tn (Fs (Fs (Fg (lv S (Rm (S.tm rfl)) rfl ?_)))));clear S;intro a S
 refine lv S (rn_lenT sl_26 (S.tm rfl) (slc_len Ao)) rfl ?_;clear S;intro a S
 refine lv S (rn_gtr (S.tm rfl) rfl) rfl ?_;clear S;intro a S
 refine Ld (Tn (f_cond (S.tm rfl) (fun hb1 => ?_) (fun hb1 => ?_)))
 ·replace h := iteT h hb1
  refine Fs (Fg (lv S (Ra rfl) rfl ?_));clear S;intro a S
  refine Ld (Tn (wp_ret (then_r ?_)))
  obtain rfl := Option.some.inj h
  exact f_ret S Tryz.results8 rfl rfl
 ·replace h := iteF h hb1
  refine wp_skip (Tn (Fs (Fs (Fg (lv S (Rm (S.tm rfl)) rfl ?_)))));clear S;intro a S
  refine lv S (rn_lenT sl_26 (S.tm rfl) (slc_len Ao)) rfl ?_;clear S;intro a S
  refine lv S (Rm rfl) rfl ?_;clear S;intro a S
  refine Ld (Tn ?_)
  replace S := S.nk [] [(0, Ab), (11, Ab), (12, iV (Ac.length : Int)), (13, iV 0)] [] rfl (subR rfl)
  obtain ⟨j1, hj1, h⟩ := joinE h
  refine f_join (fun a w' => j1 = some r ∧ Sx w [] nov [] [(0, Ab)] 49 a w') ?_ ?_
  ·refine wp_block (f_loop (fun (ys1 : List GDeed) a w' => ∃ i1 : Nat, (∃ dn, Ac = dn ++ ys1 ∧ dn.length = i1) ∧ tumbref2_DeedsFault_l1 Ac j1 ys1 i1 = some r ∧ Sx w [] nov [] [(0, Ab), (11, Ab), (12, iV (Ac.length : Int)), (13, iV (i1 : Int))] 49 a w') List.length Ac ⟨0, ⟨[], rfl, rfl⟩, h, S.nf [] rfl (subR rfl)⟩ ?_)
   clear S h;rintro ys1 a w1 ⟨i1, ⟨dn, hd1, hi1⟩, h, S⟩
   cases ys1 with
   | nil =>
    rw [tumbref2_DeedsFault_l1.eq_1] at h
    refine Fs (Fg (lv S (rn_lss (S.tm rfl) (S.tm rfl)) rfl ?_));clear S;intro a S
    refine Ld ?_
    replace S := S.nk [] [(0, Ab), (11, Ab), (12, iV (Ac.length : Int)), (13, iV (i1 : Int)), (14, bV (decide ((i1 : Int) < (Ac.length : Int))))] [] rfl (subR rfl)
    refine Tn (Fs (wp_cond_false ((S.tm rfl).trans (congrArg Value.bool (rng_nil hd1 hi1))) (wp_exit (then_x (then_x (x_same ?_))))))
    refine Tn ?_
    exact ⟨h, S.nf [] rfl ⟨rfl, trivial⟩⟩
   | cons y1 ys1 =>
    rw [tumbref2_DeedsFault_l1.eq_2] at h
    refine Fs (Fg (lv S (rn_lss (S.tm rfl) (S.tm rfl)) rfl ?_));clear S;intro a S
    refine Ld ?_
    replace S := S.nk [] [(0, Ab), (11, Ab), (12, iV (Ac.length : Int)), (13, iV (i1 : Int)), (14, bV (decide ((i1 : Int) < (Ac.length : Int))))] [] rfl (subR rfl)
    refine Tn (Fs (wp_cond_true ((S.tm rfl).trans (congrArg Value.bool (rng_cons hd1 hi1))) (wp_skip (Tn (Fs (wp_block ?_))))))
    refine Fs (Fg (lv S (Rm (S.tm rfl)) rfl ?_));clear S;intro a S
    obtain ⟨b1, o1, hm1, hr1⟩ := rn_indexT (a := a) (x := .tmp 11) (y := .tmp 13) (ty := 0) sl_26 Ao (get_mid hd1 hi1) rfl (S.tm rfl) (S.tm rfl)
    refine lv S (hr1 _) rfl ?_;clear S;intro a S
    clear hr1
    refine lv S (rn_ldA Tryz.isAgg39 Tryz.sizeOf39 (off := o1) (o := 0) (part := (GDeed.enc y1)) rfl rfl (S.tm rfl) (hm1.at S.emb0)) rfl ?_;clear S;intro a S
    refine l_alloc S Tryz.zeroValue39 (cs := [sV k_empty, iV 0, iV 0, iV 0, sV k_empty, sV k_empty, sV k_empty, iV 0, iV 0, sV k_empty, iV 0]) rfl rfl ?_;clear S;intro a w3 b2 hz1 hk1 S
    refine lv S (Ra (S.tm rfl)) rfl ?_;clear S;intro a S
    refine l_store S (S.tm rfl) (S.tm rfl) (i := 0) (off := 0) rfl Tryz.sizeOf39 (vs := (GDeed.enc y1)) rfl rfl rfl rfl ?_;clear S;intro w4 hk2 S
    refine Ld (Tn (Fs (Fs (Fg (lv S (rn_ldA Tryz.isAgg39 Tryz.sizeOf39 (off := 0) (o := 0) (part := (GDeed.enc y1)) rfl rfl (S.tm rfl) (S.cellsAt (i := 0) rfl)) rfl ?_)))));clear S;intro a S
    obtain ⟨r1, hr2, h⟩ := bindE h
    refine l_enter S (fun _ => run_call (vs := [.agg (GDeed.enc y1).toArray]) ⟨(S.tm rfl), trivial⟩ Tryz.call31) (tumbref2_DeedFault_ok _ y1 _ hr2) rfl ?_;clear S;intro v1 a w5 hv1 hk3 hn1 S
    subst hv1
    refine lv S (Ra (S.tm rfl)) rfl ?_;clear S;intro a S
    refine Ld (Tn (Fs (Fg (lv S (Rm (S.tm rfl)) rfl ?_))));clear S;intro a S
    refine lv S (rn_neq (S.tm rfl) rfl) rfl ?_;clear S;intro a S
    refine Ld ?_
    replace S := S.nk [.blk b2 (GDeed.enc y1) 39] [(0, Ab), (3, iV (i1 : Int)), (4, .pointer (some ⟨b2, 0, none⟩)), (5, iV r1), (11, Ab), (12, iV (Ac.length : Int)), (13, iV (i1 : Int)), (21, bV (!decide (r1 = 0)))] [true] rfl (subR rfl)
    refine Tn (f_cond (S.tm rfl) (fun hb2 => ?_) (fun hb2 => ?_))
    ·replace h := iteT h hb2
     refine Fs (Fg (lv S (Rm (S.tm rfl)) rfl ?_));clear S;intro a S
     refine lv S (Ra (S.tm rfl)) rfl ?_;clear S;intro a S
     refine Ld (Tn (wp_ret (then_r (blk_r (then_r (then_r ?_))))))
     refine blk_r (then_r (then_r ?_))
     obtain rfl := Option.some.inj h
     exact f_ret S Tryz.results8 rfl rfl
    ·replace h := iteF h hb2
     refine wp_skip (Tn (Fs ?_))
     obtain ⟨j2, hj2, h⟩ := joinE h
     refine f_join (fun a w' => ∃ x1 : Bool, j2 x1 = some r ∧ Sx w [] nov [] [(0, Ab), (11, Ab), (12, iV (Ac.length : Int)), (13, iV (i1 : Int)), (34, bV x1)] 49 a w') ?_ ?_
     ·rcases Bool.eq_false_or_eq_true (decide (0 < (i1 : Int))) with hb3 | hb3
      ·replace h := iteT h hb3
       obtain ⟨hc1, h⟩ := chkE h
       refine d_region [] ([]) Tryz.mixed S rfl (by kernel_rfl) ?_;clear S;intro w8 hk5 hsel S
       refine d_quiet 0 S hsel rfl rfl rfl (by kernel_rfl) (by kernel_rfl) rfl (fun _ hw => (Rm (S.tm rfl))) ?_;clear S;intro a S
       refine d_quiet 1 S hsel rfl rfl rfl (by kernel_rfl) (by kernel_rfl) rfl (fun _ hw => (rn_gtr (S.tm rfl) rfl)) ?_;clear S;intro a S
       refine d_quiet 2 S hsel rfl rfl rfl (by kernel_rfl) (by kernel_rfl) rfl (fun _ hw => (Rm (S.tm rfl))) ?_;clear S;intro a S
       refine d_quiet_g 3 S hsel rfl rfl rfl rfl hb3 rfl rfl (by kernel_rfl) (by kernel_rfl) rfl (fun _ hw => (Rm (S.tm rfl))) ?_;clear S;intro a S
       refine d_quiet_g 4 S hsel rfl rfl rfl rfl hb3 rfl rfl (by kernel_rfl) (by kernel_rfl) rfl (fun _ hw => (Rm (S.tm rfl))) ?_;clear S;intro a S
       refine d_quiet_g 5 S hsel rfl rfl rfl rfl hb3 rfl rfl (by kernel_rfl) (by kernel_rfl) rfl (fun _ hw => (rn_sub (S.tm rfl) rfl)) ?_;clear S;intro a S
       obtain ⟨b4, o3, hm3, hr4⟩ := rn_indexT (a := a) (x := .tmp 26) (y := .tmp 28) (ty := 0) sl_26 (Ao.mono (S.le_arg nil_sub)) (inB_get hc1).1 (inB_get hc1).2 (S.tm rfl) (S.tm rfl)
       refine d_quiet_g 6 S hsel rfl rfl rfl rfl hb3 rfl rfl (by kernel_rfl) (by kernel_rfl) rfl (fun _ hw => hr4 _) ?_;clear S;intro a S
       clear hr4
       refine d_quiet_g 7 S hsel rfl rfl rfl rfl hb3 rfl rfl (by kernel_rfl) (by kernel_rfl) rfl (fun _ hw => (rn_ldA Tryz.isAgg39 Tryz.sizeOf39 (off := o3) (o := 0) (part := (GDeed.enc (nth Ac (W ((i1 : Int) - 1))))) rfl rfl (S.tm rfl) (hm3.kept hw))) ?_;clear S;intro a S
       refine d_quiet_g 8 S hsel rfl rfl rfl rfl hb3 rfl rfl (by kernel_rfl) (by kernel_rfl) rfl (fun _ hw => (rn_ldA Tryz.isAgg39 Tryz.sizeOf39 (off := 0) (o := 0) (part := (GDeed.enc y1)) rfl rfl (S.tm rfl) ((S.blk_mem (i := 0) (cells := (GDeed.enc y1)) (b := b2) (T := 39) rfl (ne_nil (e' := .blk b2 (GDeed.enc y1) 39))).kept hw))) ?_;clear S;intro a S
       refine d_loud1 9 (by kernel_rfl) rfl (l_want S rfl rfl rfl hb3 (l_enter S (fun _ => run_call (vs := [.agg (GDeed.enc (nth Ac (W ((i1 : Int) - 1)))).toArray, .agg (GDeed.enc y1).toArray]) ⟨(S.tm rfl), (S.tm rfl), trivial⟩ Tryz.call20) (tumbref2_DeedOrder_ok _ (nth Ac (W ((i1 : Int) - 1))) y1 _ rfl) rfl ?_));clear S;intro v3 a w9 hv3 hk6 hn3 S
       subst hv3
       refine Ld (d_next hk6 (d_rest [10, 11] hsel (by kernel_rfl) rfl ?_))
       clear hsel
       refine s_want S rfl rfl rfl rfl hb3 (s_lv0 S (rn_geq (S.tm rfl) rfl) rfl ?_);clear S;intro a S
       refine s_lv S rfl (rn_pick_b hb3 (S.tm rfl) (S.tm rfl)) rfl ?_;clear S;intro a S
       refine s_done ?_
       replace S := S.nk [] [(0, Ab), (11, Ab), (12, iV (Ac.length : Int)), (13, iV (i1 : Int)), (26, Ab), (27, iV (i1 : Int)), (28, iV (W ((i1 : Int) - 1))), (29, .pointer (some ⟨b4, o3, none⟩)), (30, .agg (GDeed.enc (nth Ac (W ((i1 : Int) - 1)))).toArray), (31, .agg (GDeed.enc y1).toArray), (32, iV (tumbref2_DeedOrder (nth Ac (W ((i1 : Int) - 1))) y1)), (33, bV (decide (0 ≤ (tumbref2_DeedOrder (nth Ac (W ((i1 : Int) - 1))) y1)))), (34, bV (decide (0 ≤ (tumbref2_DeedOrder (nth Ac (W ((i1 : Int) - 1))) y1))))] [false] rfl (subR rfl)
       refine Tn ?_
       exact ⟨decide (0 ≤ (tumbref2_DeedOrder (nth Ac (W ((i1 : Int) - 1))) y1)), h, S.nf [] rfl (subR rfl)⟩
      ·replace h := iteF h hb3
       refine d_region [] ([]) Tryz.mixed S rfl (by kernel_rfl) ?_;clear S;intro w10 hk7 hsel S
       refine d_rest [0, 1, 2, 3, 4, 5, 6, 7, 8, 9, 10, 11] hsel (by kernel_rfl) rfl ?_
       clear hsel
       refine s_lv S rfl (Rm (S.tm rfl)) rfl ?_;clear S;intro a S
       refine s_lv S rfl (rn_gtr (S.tm rfl) rfl) rfl ?_;clear S;intro a S
       refine s_lv S rfl (Rm (S.tm rfl)) rfl ?_;clear S;intro a S
       iterate 8 (refine s_skip S rfl rfl rfl rfl (neq_f hb3) rfl ?_ rfl;clear S;intro a S)
       refine s_lv S rfl (rn_pick_c hb3 (S.tm rfl) rfl) rfl ?_;clear S;intro a S
       refine s_done ?_
       replace S := S.nk [] [(0, Ab), (11, Ab), (12, iV (Ac.length : Int)), (13, iV (i1 : Int)), (34, bV false)] [false] rfl (subR rfl)
       refine Tn ?_
       exact ⟨false, h, S.nf [] rfl (subR rfl)⟩
     clear S h;rintro a w6 ⟨x1, h, S⟩;rw [hj2] at h;clear hj2 j2
     refine Tn (f_cond (S.tm rfl) (fun hb4 => ?_) (fun hb4 => ?_))
     ·replace h := iteT h hb4
      refine Fs (Fg (lv S (Ra rfl) rfl ?_));clear S;intro a S
      refine Ld (Tn (wp_ret (blk_r (then_r (then_r (blk_r ?_))))))
      refine then_r (then_r ?_)
      obtain rfl := Option.some.inj h
      exact f_ret S Tryz.results8 rfl rfl
     ·replace h := iteF h hb4
      refine wp_skip (blk_n (Tn (Fg (lv S (rn_add (S.tm rfl) rfl) rfl ?_))));clear S;intro a S
      refine lv S (Rm (S.tm rfl)) rfl ?_;clear S;intro a S
      refine Ld (Tn ?_)
      exact ⟨ys1, ⟨i1 + 1, ⟨_, (hd1).trans (List.append_cons _ _ _), by simp [hi1]⟩, h, S.nf [] rfl ⟨rfl, rfl, rfl, (congrArg (fun z => some (Value.int .i64 z)) (rng_next hd1 hi1 (slc_max Ao))), trivial⟩⟩, Nat.lt_succ_self _⟩
  clear S h;rintro a w2 ⟨h, S⟩;rw [hj1] at h;clear hj1 j1
  refine Tn (Fs (Fs (Fg (lv S (Rm (S.tm rfl)) rfl ?_))));clear S;intro a S
  refine lv S (rn_lenT sl_26 (S.tm rfl) (slc_len Ao)) rfl ?_;clear S;intro a S
  refine lv S (Rm rfl) rfl ?_;clear S;intro a S
  refine Ld (Tn ?_)
  replace S := S.nk [] [(0, Ab), (36, Ab), (37, iV (Ac.length : Int)), (38, iV 0)] [] rfl (subR rfl)
  obtain ⟨j3, hj3, h⟩ := joinE h
  refine f_join (fun a w' => j3 = some r ∧ Sx w [] nov [] [] 49 a w') ?_ ?_
  ·refine wp_block (f_loop (fun (ys2 : List GDeed) a w' => ∃ i2 : Nat, (∃ dn, Ac = dn ++ ys2 ∧ dn.length = i2) ∧ tumbref2_DeedsFault_l2 Ac j3 ys2 i2 = some r ∧ Sx w [] nov [] [(0, Ab), (36, Ab), (37, iV (Ac.length : Int)), (38, iV (i2 : Int))] 49 a w') List.length Ac ⟨0, ⟨[], rfl, rfl⟩, h, S.nf [] rfl (subR rfl)⟩ ?_)
   clear S h;rintro ys2 a w11 ⟨i2, ⟨dn, hd2, hi2⟩, h, S⟩
   cases ys2 with
   | nil =>
    rw [tumbref2_DeedsFault_l2.eq_1] at h
    refine Fs (Fg (lv S (rn_lss (S.tm rfl) (S.tm rfl)) rfl ?_));clear S;intro a S
    refine Ld ?_
    replace S := S.nk [] [(0, Ab), (36, Ab), (37, iV (Ac.length : Int)), (38, iV (i2 : Int)), (39, bV (decide ((i2 : Int) < (Ac.length : Int))))] [] rfl (subR rfl)
    refine Tn (Fs (wp_cond_false ((S.tm rfl).trans (congrArg Value.bool (rng_nil hd2 hi2))) (wp_exit (then_x (then_x (x_same ?_))))))
    refine Tn ?_
    exact ⟨h, S.nf [] rfl trivial⟩
   | cons y2 ys2 =>
    rw [tumbref2_DeedsFault_l2.eq_2] at h
    refine Fs (Fg (lv S (rn_lss (S.tm rfl) (S.tm rfl)) rfl ?_));clear S;intro a S
    refine Ld ?_
    replace S := S.nk [] [(0, Ab), (36, Ab), (37, iV (Ac.length : Int)), (38, iV (i2 : Int)), (39, bV (decide ((i2 : Int) < (Ac.length : Int))))] [] rfl (subR rfl)
    refine Tn (Fs (wp_cond_true ((S.tm rfl).trans (congrArg Value.bool (rng_cons hd2 hi2))) (wp_skip (Tn (Fs (wp_block ?_))))))
    refine Fs (Fg (lv S (Rm (S.tm rfl)) rfl ?_));clear S;intro a S
    obtain ⟨b5, o4, hm4, hr5⟩ := rn_indexT (a := a) (x := .tmp 36) (y := .tmp 38) (ty := 0) sl_26 Ao (get_mid hd2 hi2) rfl (S.tm rfl) (S.tm rfl)
    refine lv S (hr5 _) rfl ?_;clear S;intro a S
    clear hr5
    refine lv S (rn_ldA Tryz.isAgg39 Tryz.sizeOf39 (off := o4) (o := 0) (part := (GDeed.enc y2)) rfl rfl (S.tm rfl) (hm4.at S.emb0)) rfl ?_;clear S;intro a S
    refine l_alloc S Tryz.zeroValue39 (cs := [sV k_empty, iV 0, iV 0, iV 0, sV k_empty, sV k_empty, sV k_empty, iV 0, iV 0, sV k_empty, iV 0]) rfl rfl ?_;clear S;intro a w13 b6 hz2 hk8 S
    refine lv S (Ra (S.tm rfl)) rfl ?_;clear S;intro a S
    refine l_store S (S.tm rfl) (S.tm rfl) (i := 0) (off := 0) rfl Tryz.sizeOf39 (vs := (GDeed.enc y2)) rfl rfl rfl rfl ?_;clear S;intro w14 hk9 S
    refine Ld (Tn (Fs (Fg (lv S (Rm (S.tm rfl)) rfl ?_))));clear S;intro a S
    refine lv S (Rm (S.tm rfl)) rfl ?_;clear S;intro a S
    obtain ⟨hc2, h⟩ := chkE h
    obtain ⟨v4, hs1, hr6⟩ := rn_cutTh (a := a) (x := .tmp 43) (y' := .tmp 44) (ty := 26) sl_26 Ao (S.tm rfl) (S.tm rfl) hc2
    refine lv S (hr6 _) rfl ?_;clear S;intro a S
    clear hr6
    refine lv S (rn_makeFunc (us := #[]) (xs := [].toArray) (ys := [.tmp 7].toArray) (by simp) (evA ⟨(S.tm rfl), trivial⟩ (vs := [.pointer (some ⟨b6, 0, none⟩)]))) rfl ?_;clear S;intro a S
    refine l_enter S (fun _ => run_call (vs := [v4, .func (.func 33) #[] #[.pointer (some ⟨b6, 0, none⟩)]]) ⟨(S.tm rfl), (S.tm rfl), trivial⟩ Tryz.call32) (slices_ContainsFunc_Deed_tumbref2_DeedsFault_c1_ok _ v4 (cut Ac 0 (i2 : Int)) (hs1.mono (S.le_arg nil_sub)) b6 y2 (S.blk_view (i := 0) rfl ((ne_nil (e' := .blk b6 (GDeed.enc y2) 39)) _ rfl)) _ rfl) rfl ?_;clear S;intro v5 a w15 hv4 hk10 hn4 S
    subst hv4
    refine Ld ?_
    replace S := S.nk [] [(0, Ab), (36, Ab), (37, iV (Ac.length : Int)), (38, iV (i2 : Int)), (47, bV (slices_ContainsFunc_Deed_tumbref2_DeedsFault_c1 (cut Ac 0 (i2 : Int)) y2))] [false] rfl (subR rfl)
    refine Tn (f_cond (S.tm rfl) (fun hb5 => ?_) (fun hb5 => ?_))
    ·replace h := iteT h hb5
     refine Fs (Fg (lv S (Ra rfl) rfl ?_));clear S;intro a S
     refine Ld (Tn (wp_ret (blk_r (then_r (then_r (blk_r ?_))))))
     refine then_r (then_r ?_)
     obtain rfl := Option.some.inj h
     exact f_ret S Tryz.results8 rfl rfl
    ·replace h := iteF h hb5
     refine wp_skip (blk_n (Tn (Fg (lv S (rn_add (S.tm rfl) rfl) rfl ?_))));clear S;intro a S
     refine lv S (Rm (S.tm rfl)) rfl ?_;clear S;intro a S
     refine Ld (Tn ?_)
     exact ⟨ys2, ⟨i2 + 1, ⟨_, (hd2).trans (List.append_cons _ _ _), by simp [hi2]⟩, h, S.nf [] rfl ⟨rfl, rfl, rfl, (congrArg (fun z => some (Value.int .i64 z)) (rng_next hd2 hi2 (slc_max Ao))), trivial⟩⟩, Nat.lt_succ_self _⟩
  clear S h;rintro a w12 ⟨h, S⟩;rw [hj3] at h;clear hj3 j3
  refine Tn (Fs (Fg (lv S (Ra rfl) rfl ?_)));clear S;intro a S
  refine Ld (Tn (wp_ret ?_))
  obtain rfl := Option.some.inj h
  exact f_ret S Tryz.results8 rfl rfl
theorem Stream_RightDeeds_ok (w : World) (O : Nat) (U : Value) (Ah : List Int) (Ai : Slc (view w [O]) 1 U (Ah.map eInt)) (Af : Int) (Aw : (LEnt.blk O [U, iV Af] 25).holds w) (Bc : Int) (r : (List GDeed) × Int) (h : Stream_RightDeeds Ah Af Bc = some r) :
    Calls Tryz.prog 21 [.pointer (some ⟨O, 0, none⟩), iV Bc].toArray w (Ret w [O] fun τ v w' => (LEnt.blk O [U, iV r.2] 25).holds w' ∧ OwnV τ 39 11 v r.1.length (r.1.flatMap GDeed.enc)) := by
 refine f_enter [O] [.blk O [U, iV Af] 25] Tryz.func21 rfl Tryz.ntmps21 rfl (fun e he => by simp only [List.mem_singleton] at he;subst he;exact Aw) (by simp [fps, LEnt.fp]) (by simp [fps, LEnt.fp]) fun a S => ?_
 unfold Stream_RightDeeds at h
 replace S := S.nk [.blk O [U, iV Af] 25] [(0, .pointer (some ⟨O, 0, none⟩)), (1, iV Bc)] [true] rfl (subR rfl)
 refine Fs (Fg (lv S (Ra rfl) rfl ?_));clear S;intro a S
 refine Ld (Tn (Fs (Fs (Fg (lv S (Rm rfl) rfl ?_)))));clear S;intro a S
 refine Ld (Tn ?_)
 replace S := S.nk [.blk O [U, iV Af] 25] [(0, .pointer (some ⟨O, 0, none⟩)), (1, iV Bc), (6, iV 0)] [true] rfl (subR rfl)
 obtain ⟨j1, hj1, h⟩ := joinE h
 refine f_join (fun a w' => ∃ x1 : Int, ∃ φ1 : View, j1 x1 = some r ∧ View.le nov φ1 ∧ Sx w [O] φ1 [.blk O [U, iV x1] 25] [] 16 a w') ?_ ?_
 ·refine wp_block (f_loop (fun (m1 : Nat) a w' => ∃ x1 : Int, ∃ x2 : Int, ∃ φ1 : View, Stream_RightDeeds_l1 Ah Bc j1 m1 x1 x2 = some r ∧ View.le nov φ1 ∧ Sx w [O] φ1 [.blk O [U, iV x1] 25] [(0, .pointer (some ⟨O, 0, none⟩)), (1, iV Bc), (6, iV x2)] 16 a w') id 7 ⟨Af, 0, nov, h, View.le_refl _, S.nf [true] rfl (subR rfl)⟩ ?_)
  clear S h;rintro m1 a w1 ⟨x1, x2, φ1, h, hl1, S⟩
  cases m1 with
  | zero => rw [Stream_RightDeeds_l1.eq_1] at h;cases h
  | succ m1 =>
   rw [Stream_RightDeeds_l1.eq_2] at h
   refine Fs (Fg (lv S (rn_lss (S.tm rfl) rfl) rfl ?_));clear S;intro a S
   refine Ld (Tn (Fs (f_cond (S.tm rfl) (fun hb1 => ?_) (fun hb1 => ?_))))
   ·replace h := iteT h hb1
    refine wp_skip (Tn (Fs (wp_block (Fs (Fg (lv S (Rm (S.tm rfl)) rfl ?_))))));clear S;intro a S
    refine lv S (Rm (S.tm rfl)) rfl ?_;clear S;intro a S
    obtain ⟨r1, hr1, h⟩ := bindE h
    have hz1 := S.keep.size
    refine l_enter1 0 S (b := O) rfl rfl (fun _ => .blk O [U, iV r1.2] 25) (fun _ => run_call (vs := [.pointer (some ⟨O, 0, none⟩), iV Bc]) ⟨(S.tm rfl), (S.tm rfl), trivial⟩ Tryz.call4) (Stream_Deeds_ok _ O U Ah (Ai.mono (S.le_arg (fp_sub (i := 0) (e := .blk O [U, iV x1] 25) rfl))) x1 (S.holds _ (List.mem_of_getElem? (i := 0) rfl)) Bc _ hr1) rfl (fun _ _ _ h => ⟨h.1, fun _ hc => by cases hc;rfl⟩) ?_;clear S;intro v1 a w3 hv1 hk1 hn1 S
    replace hv1 := hv1.2
    obtain ⟨φ2, hl2, hm1, S⟩ := S.see' hn1 hz1
    have hs1 := hv1.mono hm1
    refine lv S (Ra (S.tm rfl)) rfl ?_;clear S;intro a S
    refine Ld (Tn (Fs (Fg (lv S (Rm (S.tm rfl)) rfl ?_))));clear S;intro a S
    obtain ⟨r2, hr2, h⟩ := bindE h
    refine l_enter S (fun _ => run_call (vs := [v1]) ⟨(S.tm rfl), trivial⟩ Tryz.call8) (tumbref2_DeedsFault_ok _ v1 r1.1 ((ownV_slcT GDeed.enc_ok hs1).mono (S.le_new nil_sub)) _ hr2) rfl ?_;clear S;intro v2 a w4 hv2 hk2 hn2 S
    subst hv2
    refine lv S (rn_eql (S.tm rfl) rfl) rfl ?_;clear S;intro a S
    refine Ld (Tn (f_cond (S.tm rfl) (fun hb2 => ?_) (fun hb2 => ?_)))
    ·replace h := iteT h hb2
     refine Fs (Fg (lv S (Rm (S.tm rfl)) rfl ?_));clear S;intro a S
     refine lv S (Ra (S.tm rfl)) rfl ?_;clear S;intro a S
     refine Ld (Tn (wp_ret (blk_r (then_r (then_r (blk_r ?_))))))
     refine then_r (then_r ?_)
     obtain rfl := Option.some.inj h
     exact f_ret S Tryz.results21 rfl ⟨(S.holds _ (List.mem_of_getElem? (i := 0) rfl)), ((hs1).mono S.le_newer)⟩
    ·replace h := iteF h hb2
     refine wp_skip (blk_n (Tn (Fg (lv S (rn_add (S.tm rfl) rfl) rfl ?_))));clear S;intro a S
     refine lv S (Rm (S.tm rfl)) rfl ?_;clear S;intro a S
     refine Ld (Tn ?_)
     exact ⟨m1, ⟨r1.2, W (x2 + 1), φ2, h, (View.le_trans hl1 hl2), S.nf [true] rfl ⟨rfl, rfl, rfl, trivial⟩⟩, Nat.lt_succ_self _⟩
   ·replace h := iteF h hb1
    refine wp_exit (then_x (then_x (x_same (Tn ?_))))
    exact ⟨x1, φ1, h, hl1, S.nf [true] rfl trivial⟩
 clear S h;rintro a w2 ⟨x1, φ1, h, hl1, S⟩;rw [hj1] at h;clear hj1 j1
 refine Tn (Fs (Fg (lv S (Ra rfl) rfl ?_)));clear S;intro a S
 refine Ld (Tn (wp_ret ?_))
 obtain rfl := Option.some.inj h
 exact f_ret S Tryz.results21 rfl ⟨(S.holds _ (List.mem_of_getElem? (i := 0) rfl)), (ownV_nil _ _ _)⟩
theorem strconv_Itoa_ok (w : World) (n : Int) (hg_pow10 : Glob (view w []) 1 pow10Cells) (r : ByteArray) (h : strconv_Itoa n = some r) : Calls Tryz.prog 24 [iV n].toArray w (Ret w [] fun _ v _ => v = .string r) := by
  unfold strconv_Itoa at h
  obtain ⟨hc, h⟩ := chkE h
  simp only [Bool.and_eq_true, decide_eq_true_eq] at hc
  obtain rfl := Option.some.inj h
  exact ret_of_grow (Any.strconv_Itoa Tryz.lays171 n hc.1 hc.2 w (hg_pow10.tab (by kernel_rfl)))
theorem strings_Join_ok (w : World) (v_xs : Value) (xs : List ByteArray) (hs_xs : Slc (view w []) 1 v_xs (xs.map eStr)) (sep : ByteArray) (r : ByteArray) (h : strings_Join xs sep = some r) : Calls Tryz.prog 28 [v_xs, sV sep].toArray w (Ret w [] fun _ v _ => v = .string r) := by
  unfold strings_Join at h
  obtain ⟨hc, h⟩ := chkE h
  simp only [Bool.and_eq_true, decide_eq_true_eq] at hc
  obtain rfl := Option.some.inj h
  exact join_ret Tryz.lays156 Tryz.bx156 v_xs xs sep w hs_xs hc.1 hc.2
theorem tumbref2_numbers_ok (w : World) (Ab : Value) (Ac : List Int) (Ao : Slc (view w []) 1 Ab (Ac.map eInt)) (hg_pow10 : Glob (view w []) 1 pow10Cells) (r : ByteArray) (h : tumbref2_numbers Ac = some r) :
    Calls Tryz.prog 35 [Ab].toArray w (Ret w [] fun _ v _ => v = sV r) := by
 refine f_enter [] [] Tryz.func35 rfl Tryz.ntmps35 rfl (by simp) (by simp [fps]) (by simp [fps]) fun a S => ?_
 unfold tumbref2_numbers at h
 replace S := S.nk [] [(0, Ab)] [] rfl ⟨rfl, trivial⟩
 refine Fs (Fg (lv S (Ra rfl) rfl ?_));clear S;intro a S
 refine Ld (Tn (Fs (Fg (lv S (Ra rfl) rfl ?_))));clear S;intro a S
 replace S := S.nil 9 1
 refine Ld (Tn (Fs (Fs (Fg (lv S (Rm (S.tm rfl)) rfl ?_)))));clear S;intro a S
 refine lv S (rn_lenT sl_22 (S.tm rfl) (slc_len Ao)) rfl ?_;clear S;intro a S
 refine lv S (Rm rfl) rfl ?_;clear S;intro a S
 refine Ld (Tn ?_)
 replace S := S.nk [.own (.slice none 0 0) 9 1 ([] : List ByteArray).length (([] : List ByteArray).flatMap eStr)] [(3, (.slice none 0 0)), (6, Ab), (7, iV (Ac.length : Int)), (8, iV 0)] [true] rfl (subR rfl)
 obtain ⟨j1, hj1, h⟩ := joinE h
 refine f_join (fun a w' => ∃ x1 : List ByteArray, ∃ v1 : Value, j1 x1 = some r ∧ Sx w [] nov [.own v1 9 1 x1.length (x1.flatMap eStr)] [(3, v1)] 20 a w') ?_ ?_
 ·refine wp_block (f_loop (fun (ys1 : List Int) a w' => ∃ i1 : Nat, ∃ x1 : List ByteArray, ∃ v1 : Value, (∃ dn, Ac = dn ++ ys1 ∧ dn.length = i1) ∧ tumbref2_numbers_l1 j1 ys1 i1 x1 = some r ∧ Sx w [] nov [.own v1 9 1 x1.length (x1.flatMap eStr)] [(3, v1), (6, Ab), (7, iV (Ac.length : Int)), (8, iV (i1 : Int))] 20 a w') List.length Ac ⟨0, ([] : List ByteArray), (.slice none 0 0), ⟨[], rfl, rfl⟩, h, S.nf [true] rfl (subR rfl)⟩ ?_)
  clear S h;rintro ys1 a w1 ⟨i1, x1, v1, ⟨dn, hd1, hi1⟩, h, S⟩
  cases ys1 with
  | nil =>
   rw [tumbref2_numbers_l1.eq_1] at h
   refine Fs (Fg (lv S (rn_lss (S.tm rfl) (S.tm rfl)) rfl ?_));clear S;intro a S
   refine Ld ?_
   replace S := S.nk [.own v1 9 1 x1.length (x1.flatMap eStr)] [(3, v1), (6, Ab), (7, iV (Ac.length : Int)), (8, iV (i1 : Int)), (9, bV (decide ((i1 : Int) < (Ac.length : Int))))] [true] rfl (subR rfl)
   refine Tn (Fs (wp_cond_false ((S.tm rfl).trans (congrArg Value.bool (rng_nil hd1 hi1))) (wp_exit (then_x (then_x (x_same ?_))))))
   refine Tn ?_
   exact ⟨x1, v1, h, S.nf [true] rfl ⟨rfl, trivial⟩⟩
  | cons y1 ys1 =>
   rw [tumbref2_numbers_l1.eq_2] at h
   refine Fs (Fg (lv S (rn_lss (S.tm rfl) (S.tm rfl)) rfl ?_));clear S;intro a S
   refine Ld ?_
   replace S := S.nk [.own v1 9 1 x1.length (x1.flatMap eStr)] [(3, v1), (6, Ab), (7, iV (Ac.length : Int)), (8, iV (i1 : Int)), (9, bV (decide ((i1 : Int) < (Ac.length : Int))))] [true] rfl (subR rfl)
   refine Tn (Fs (wp_cond_true ((S.tm rfl).trans (congrArg Value.bool (rng_cons hd1 hi1))) (wp_skip (Tn (Fs (wp_block ?_))))))
   refine Fs (Fg ?_)
   obtain ⟨b1, o1, hm1, hr1⟩ := rn_indexT (a := a) (x := .tmp 6) (y := .tmp 8) (ty := 0) sl_22 Ao (get_mid hd1 hi1) rfl (S.tm rfl) (S.tm rfl)
   refine lv S (hr1 _) rfl ?_;clear S;intro a S
   clear hr1
   refine lv S (rn_ld Tryz.isAgg3 (off := o1) (o := 0) (S.tm rfl) (hm1.at S.emb0) rfl) rfl ?_;clear S;intro a S
   refine lv S (Ra (S.tm rfl)) rfl ?_;clear S;intro a S
   refine Ld (Tn (Fg (lv S (Rm (S.tm rfl)) rfl ?_)));clear S;intro a S
   refine lv S (Rm (S.tm rfl)) rfl ?_;clear S;intro a S
   obtain ⟨r1, hr2, h⟩ := bindE h
   refine l_enter S (fun _ => run_call (vs := [iV y1]) ⟨(S.tm rfl), trivial⟩ Tryz.call24) (strconv_Itoa_ok _ y1 (hg_pow10.mono (S.le_arg nil_sub)) _ hr2) rfl ?_;clear S;intro v2 a w3 hv1 hk1 hn1 S
   subst hv1
   refine l_buildSlice S Tryz.underlying55 Tryz.sizeOf9 Tryz.zeroValue9 rfl rfl (pv := [(0, sV r1)]) ⟨rfl, (S.tm rfl), trivial⟩ (cs := [sV r1]) (by kernel_rfl) rfl ?_;clear S;intro a w4 b2 hz1 hk2 S
   obtain ⟨hc1, h⟩ := chkE h
   refine l_appendT sl_55 enc_str S (S.tm rfl) (i := 1) rfl (S.tm rfl) (j := 0) rfl (ys := [r1]) rfl rfl rfl rfl (by have := room_lt hc1;omega) rfl ?_;clear S;intro v3 a w5 hk3 S
   refine lv S (Ra (S.tm rfl)) rfl ?_;clear S;intro a S
   refine Ld (blk_n (Tn (Fg (lv S (rn_add (S.tm rfl) rfl) rfl ?_))));clear S;intro a S
   refine lv S (Rm (S.tm rfl)) rfl ?_;clear S;intro a S
   refine Ld (Tn ?_)
   exact ⟨ys1, ⟨i1 + 1, (x1 ++ [r1]), v3, ⟨_, (hd1).trans (List.append_cons _ _ _), by simp [hi1]⟩, h, S.nf [false, true] rfl ⟨rfl, rfl, rfl, (congrArg (fun z => some (Value.int .i64 z)) (rng_next hd1 hi1 (slc_max Ao))), trivial⟩⟩, Nat.lt_succ_self _⟩
 clear S h;rintro a w2 ⟨x1, v1, h, S⟩;rw [hj1] at h;clear hj1 j1
 refine Tn (Fs (Fg (lv S (Rm (S.tm rfl)) rfl ?_)));clear S;intro a S
 obtain ⟨r2, hr3, h⟩ := bindE h
 refine l_enter S (fun _ => run_call (vs := [v1, sV k__20]) ⟨(S.tm rfl), rfl, trivial⟩ Tryz.call28) (strings_Join_ok _ v1 x1 (own_slcT enc_str S (i := 0) rfl (ne_nil (e' := .own v1 9 1 x1.length (x1.flatMap eStr)))) k__20 _ hr3) rfl ?_;clear S;intro v4 a w6 hv2 hk4 hn2 S
 subst hv2
 refine lv S (Ra (S.tm rfl)) rfl ?_;clear S;intro a S
 refine Ld (Tn (wp_ret ?_))
 obtain rfl := Option.some.inj h
 exact f_ret S Tryz.results35 rfl rfl
theorem tumbref2_dash_ok (w : World) (Ad : ByteArray) (r : ByteArray) (h : tumbref2_dash Ad = r) :
    Calls Tryz.prog 36 [sV Ad].toArray w (Ret w [] fun _ v _ => v = sV r) := by
 refine f_enter [] [] Tryz.func36 rfl Tryz.ntmps36 rfl (by simp) (by simp [fps]) (by simp [fps]) fun a S => ?_
 unfold tumbref2_dash at h
 replace S := S.nk [] [(0, sV Ad)] [] rfl ⟨rfl, trivial⟩
 refine Fs (Fg (lv S (Ra rfl) rfl ?_));clear S;intro a S
 refine Ld (Tn (Fs (Fs (Fg (lv S (Rm (S.tm rfl)) rfl ?_)))));clear S;intro a S
 refine lv S (rn_seql (S.tm rfl) rfl) rfl ?_;clear S;intro a S
 refine Ld (Tn (f_cond (S.tm rfl) (fun hb1 => ?_) (fun hb1 => ?_)))
 ·replace h := iteT h hb1
  refine Fs (Fg (lv S (Ra rfl) rfl ?_));clear S;intro a S
  refine Ld (Tn (wp_ret (then_r ?_)))
  subst h
  exact f_ret S Tryz.results36 rfl rfl
 ·replace h := iteF h hb1
  refine wp_skip (Tn (Fs (Fg (lv S (Rm (S.tm rfl)) rfl ?_))));clear S;intro a S
  refine lv S (Ra (S.tm rfl)) rfl ?_;clear S;intro a S
  refine Ld (Tn (wp_ret ?_))
  subst h
  exact f_ret S Tryz.results36 rfl rfl
set_option maxRecDepth 20000 in
theorem tumbref2_DeedLines_ok (w : World) (Ab : Value) (Ac : List GDeed) (Ao : Slc (view w []) 11 Ab (Ac.map GDeed.enc)) (hg_pow10 : Glob (view w []) 1 pow10Cells) (r : ByteArray) (h : tumbref2_DeedLines Ac = some r) :
    Calls Tryz.prog 9 [Ab].toArray w (Ret w [] fun _ v _ => v = sV r) := by
 refine f_enter [] [] Tryz.func9 rfl Tryz.ntmps9 rfl (by simp) (by simp [fps]) (by simp [fps]) fun a S => ?_
 unfold tumbref2_DeedLines at h
 replace S := S.nk [] [(0, Ab)] [] rfl ⟨rfl, trivial⟩
 refine Fs (Fg (lv S (Ra rfl) rfl ?_));clear S;intro a S
 refine Ld (Tn (Fs (Fg (lv S (Ra rfl) rfl ?_))));clear S;intro a S
 refine Ld (Tn (Fs (Fs (Fg (lv S (Rm (S.tm rfl)) rfl ?_)))));clear S;intro a S
 refine lv S (rn_lenT sl_26 (S.tm rfl) (slc_len Ao)) rfl ?_;clear S;intro a S
 refine lv S (Rm rfl) rfl ?_;clear S;intro a S
 refine Ld (Tn ?_)
 replace S := S.nk [] [(3, sV k_empty), (6, Ab), (7, iV (Ac.length : Int)), (8, iV 0)] [] rfl (subR rfl)
 obtain ⟨j1, hj1, h⟩ := joinE h
 refine f_join (fun a w' => ∃ x1 : ByteArray, j1 x1 = some r ∧ Sx w [] nov [] [(3, sV x1)] 94 a w') ?_ ?_
 ·refine wp_block (f_loop (fun (ys1 : List GDeed) a w' => ∃ i1 : Nat, ∃ x1 : ByteArray, (∃ dn, Ac = dn ++ ys1 ∧ dn.length = i1) ∧ tumbref2_DeedLines_l1 j1 ys1 i1 x1 = some r ∧ Sx w [] nov [] [(3, sV x1), (6, Ab), (7, iV (Ac.length : Int)), (8, iV (i1 : Int))] 94 a w') List.length Ac ⟨0, k_empty, ⟨[], rfl, rfl⟩, h, S.nf [] rfl (subR rfl)⟩ ?_)
  clear S h;rintro ys1 a w1 ⟨i1, x1, ⟨dn, hd1, hi1⟩, h, S⟩
  cases ys1 with
  | nil =>
   rw [tumbref2_DeedLines_l1.eq_1] at h
   refine Fs (Fg (lv S (rn_lss (S.tm rfl) (S.tm rfl)) rfl ?_));clear S;intro a S
   refine Ld ?_
   replace S := S.nk [] [(3, sV x1), (6, Ab), (7, iV (Ac.length : Int)), (8, iV (i1 : Int)), (9, bV (decide ((i1 : Int) < (Ac.length : Int))))] [] rfl (subR rfl)
   refine Tn (Fs (wp_cond_false ((S.tm rfl).trans (congrArg Value.bool (rng_nil hd1 hi1))) (wp_exit (then_x (then_x (x_same ?_))))))
   refine Tn ?_
   exact ⟨x1, h, S.nf [] rfl ⟨rfl, trivial⟩⟩
  | cons y1 ys1 =>
   rw [tumbref2_DeedLines_l1.eq_2] at h
   refine Fs (Fg (lv S (rn_lss (S.tm rfl) (S.tm rfl)) rfl ?_));clear S;intro a S
   refine Ld ?_
   replace S := S.nk [] [(3, sV x1), (6, Ab), (7, iV (Ac.length : Int)), (8, iV (i1 : Int)), (9, bV (decide ((i1 : Int) < (Ac.length : Int))))] [] rfl (subR rfl)
   refine Tn (Fs (wp_cond_true ((S.tm rfl).trans (congrArg Value.bool (rng_cons hd1 hi1))) (wp_skip (Tn (Fs (wp_block ?_))))))
   refine Fs (Fg ?_)
   obtain ⟨b1, o1, hm1, hr1⟩ := rn_indexT (a := a) (x := .tmp 6) (y := .tmp 8) (ty := 0) sl_26 Ao (get_mid hd1 hi1) rfl (S.tm rfl) (S.tm rfl)
   refine lv S (hr1 _) rfl ?_;clear S;intro a S
   clear hr1
   refine lv S (rn_ldA Tryz.isAgg39 Tryz.sizeOf39 (off := o1) (o := 0) (part := (GDeed.enc y1)) rfl rfl (S.tm rfl) (hm1.at S.emb0)) rfl ?_;clear S;intro a S
   refine l_alloc S Tryz.zeroValue39 (cs := [sV k_empty, iV 0, iV 0, iV 0, sV k_empty, sV k_empty, sV k_empty, iV 0, iV 0, sV k_empty, iV 0]) rfl rfl ?_;clear S;intro a w3 b2 hz1 hk1 S
   refine l_store S (S.tm rfl) (S.tm rfl) (i := 0) (off := 0) rfl Tryz.sizeOf39 (vs := (GDeed.enc y1)) rfl rfl rfl rfl ?_;clear S;intro w4 hk2 S
   refine Ld (Tn (Fs ?_))
   obtain ⟨hc1, h⟩ := chkE h
   obtain ⟨r1, hr2, h⟩ := bindE h
   refine d_region [] ([]) Tryz.mixed S rfl (by kernel_rfl) ?_;clear S;intro w7 hk5 hsel S
   refine d_quiet 0 S hsel rfl rfl rfl (by kernel_rfl) (by kernel_rfl) rfl (fun _ hw => (Rm (S.tm rfl))) ?_;clear S;intro a S
   refine d_quiet 1 S hsel rfl rfl rfl (by kernel_rfl) (by kernel_rfl) rfl (fun _ hw => (rn_fld fa_39_0 (S.tm rfl))) ?_;clear S;intro a S
   refine d_quiet 2 S hsel rfl rfl rfl (by kernel_rfl) (by kernel_rfl) rfl (fun _ hw => (rn_ld Tryz.isAgg9 (off := 0) (o := 0) (S.tm rfl) ((S.blk_mem (i := 0) (cells := (GDeed.enc y1)) (b := b2) (T := 39) rfl (ne_nil (e' := .blk b2 (GDeed.enc y1) 39))).kept hw) rfl)) ?_;clear S;intro a S
   refine d_quiet 3 S hsel rfl rfl rfl (by kernel_rfl) (by kernel_rfl) rfl (fun _ hw => (rn_sadd (m := y1.Site) (n := k__20) (S.tm rfl) rfl (by have := room_lt hc1;omega))) ?_;clear S;intro a S
   refine d_quiet 4 S hsel rfl rfl rfl (by kernel_rfl) (by kernel_rfl) rfl (fun _ hw => (rn_fld fa_39_1 (S.tm rfl))) ?_;clear S;intro a S
   refine d_quiet 5 S hsel rfl rfl rfl (by kernel_rfl) (by kernel_rfl) rfl (fun _ hw => (rn_ld Tryz.isAgg3 (off := 0) (o := 1) (S.tm rfl) ((S.blk_mem (i := 0) (cells := (GDeed.enc y1)) (b := b2) (T := 39) rfl (ne_nil (e' := .blk b2 (GDeed.enc y1) 39))).kept hw) rfl)) ?_;clear S;intro a S
   refine d_quiet 6 S hsel rfl rfl rfl (by kernel_rfl) (by kernel_rfl) rfl (fun _ hw => (rn_fld fa_39_2 (S.tm rfl))) ?_;clear S;intro a S
   refine d_quiet 7 S hsel rfl rfl rfl (by kernel_rfl) (by kernel_rfl) rfl (fun _ hw => (rn_ld Tryz.isAgg3 (off := 0) (o := 2) (S.tm rfl) ((S.blk_mem (i := 0) (cells := (GDeed.enc y1)) (b := b2) (T := 39) rfl (ne_nil (e' := .blk b2 (GDeed.enc y1) 39))).kept hw) rfl)) ?_;clear S;intro a S
   refine d_loud1 8 (by kernel_rfl) rfl (l_buildSlice S Tryz.underlying22 Tryz.sizeOf3 Tryz.zeroValue3 rfl rfl (pv := [(0, iV y1.No), (1, iV y1.At)]) ⟨rfl, (S.tm rfl), rfl, (S.tm rfl), trivial⟩ (cs := [iV y1.No, iV y1.At]) (by kernel_rfl) rfl ?_);clear S;intro a w8 b4 hz3 hk6 S
   refine Ld (d_next hk6 (d_loud1 9 (by kernel_rfl) rfl (l_enter S (fun _ => run_call (vs := [.slice (some ⟨b4, 0, none⟩) 2 2]) ⟨(S.tm rfl), trivial⟩ Tryz.call35) (tumbref2_numbers_ok _ (.slice (some ⟨b4, 0, none⟩) 2 2) [y1.No, y1.At] (lit_slcT enc_int S (i := 0) rfl rfl rfl rfl ((ne_nil (e' := .blk b4 [iV y1.No, iV y1.At] 3)) _ rfl)) (hg_pow10.mono (S.le_arg nil_sub)) _ hr2) rfl ?_)));clear S;intro v2 a w9 hv2 hk7 hn2 S
   subst hv2
   refine Ld (d_next hk7 (d_rest [10, 11, 12, 13] hsel (by kernel_rfl) rfl ?_))
   clear hsel
   obtain ⟨hc2, h⟩ := chkE h
   refine s_lv S rfl (rn_sadd (m := (y1.Site ++ k__20)) (n := r1) (S.tm rfl) (S.tm rfl) (by have := room_lt hc2;omega)) rfl ?_;clear S;intro a S
   obtain ⟨hc3, h⟩ := chkE h
   refine s_lv S rfl (rn_sadd (m := ((y1.Site ++ k__20) ++ r1)) (n := k__20) (S.tm rfl) rfl (by have := room_lt hc3;omega)) rfl ?_;clear S;intro a S
   obtain ⟨hc4, h⟩ := chkE h
   refine s_lv S rfl (rn_sadd (m := x1) (n := (((y1.Site ++ k__20) ++ r1) ++ k__20)) (S.tm rfl) (S.tm rfl) (by have := room_lt hc4;omega)) rfl ?_;clear S;intro a S
   refine s_lv S rfl (Ra (S.tm rfl)) rfl ?_;clear S;intro a S
   refine s_done ?_
   replace S := S.nk [.blk b2 (GDeed.enc y1) 39] [(3, sV (x1 ++ (((y1.Site ++ k__20) ++ r1) ++ k__20))), (5, .pointer (some ⟨b2, 0, none⟩)), (6, Ab), (7, iV (Ac.length : Int)), (8, iV (i1 : Int))] [false, true] rfl (subR rfl)
   refine Tn (Fs (Fs (Fg (lv S (rn_fld fa_39_3 (S.tm rfl)) rfl ?_))));clear S;intro a S
   refine lv S (rn_load Tryz.isAgg3 (S.tm rfl) (S.cell (i := 0) rfl rfl)) rfl ?_;clear S;intro a S
   refine Ld (Tn ?_)
   obtain ⟨j2, hj2, h⟩ := joinE h
   refine f_join (fun a w' => ∃ x2 : ByteArray, j2 x2 = some r ∧ Sx w [] nov [] [(3, sV x2), (6, Ab), (7, iV (Ac.length : Int)), (8, iV (i1 : Int))] 94 a w') ?_ ?_
   ·refine wp_block (Fs (Fg (lv S (rn_eql (S.tm rfl) rfl) rfl ?_)));clear S;intro a S
    refine lv S (Ra (S.tm rfl)) rfl ?_;clear S;intro a S
    refine Ld (Tn ?_)
    obtain ⟨j3, hj3, h⟩ := joinE h
    refine f_join (fun a w' => ∃ x3 : ByteArray, j3 x3 = some r ∧ Sx w [] nov [] [(3, sV x3), (6, Ab), (7, iV (Ac.length : Int)), (8, iV (i1 : Int))] 94 a w') ?_ ?_
    ·refine f_cond (S.tm rfl) (fun hb1 => ?_) (fun hb1 => ?_)
     ·replace h := iteT h hb1
      obtain ⟨j4, hj4, h⟩ := joinE h
      refine f_join (fun a w' => ∃ x4 : ByteArray, j4 x4 = some r ∧ Sx w [] nov [] [(3, sV x4), (6, Ab), (7, iV (Ac.length : Int)), (8, iV (i1 : Int))] 94 a w') ?_ ?_
      ·obtain ⟨hc5, h⟩ := chkE h
       obtain ⟨hc6, h⟩ := chkE h
       obtain ⟨hc7, h⟩ := chkE h
       obtain ⟨hc8, h⟩ := chkE h
       obtain ⟨hc9, h⟩ := chkE h
       obtain ⟨hc10, h⟩ := chkE h
       obtain ⟨r2, hr3, h⟩ := bindE h
       refine d_region [] ([]) Tryz.mixed S rfl (by kernel_rfl) ?_;clear S;intro w16 hk11 hsel S
       refine d_quiet 0 S hsel rfl rfl rfl (by kernel_rfl) (by kernel_rfl) rfl (fun _ hw => (Rm (S.tm rfl))) ?_;clear S;intro a S
       refine d_quiet 1 S hsel rfl rfl rfl (by kernel_rfl) (by kernel_rfl) rfl (fun _ hw => (rn_fld fa_39_4 (S.tm rfl))) ?_;clear S;intro a S
       refine d_quiet 2 S hsel rfl rfl rfl (by kernel_rfl) (by kernel_rfl) rfl (fun _ hw => (rn_ld Tryz.isAgg9 (off := 0) (o := 4) (S.tm rfl) ((S.blk_mem (i := 0) (cells := (GDeed.enc y1)) (b := b2) (T := 39) rfl (ne_nil (e' := .blk b2 (GDeed.enc y1) 39))).kept hw) rfl)) ?_;clear S;intro a S
       refine d_quiet 3 S hsel rfl rfl rfl (by kernel_rfl) (by kernel_rfl) rfl (fun _ hw => (rn_sadd (m := k_enter_20) (n := y1.Who) rfl (S.tm rfl) (by have := room_lt hc5;omega))) ?_;clear S;intro a S
       refine d_quiet 4 S hsel rfl rfl rfl (by kernel_rfl) (by kernel_rfl) rfl (fun _ hw => (rn_sadd (m := (k_enter_20 ++ y1.Who)) (n := k__20) (S.tm rfl) rfl (by have := room_lt hc6;omega))) ?_;clear S;intro a S
       refine d_quiet 5 S hsel rfl rfl rfl (by kernel_rfl) (by kernel_rfl) rfl (fun _ hw => (rn_fld fa_39_5 (S.tm rfl))) ?_;clear S;intro a S
       refine d_quiet 6 S hsel rfl rfl rfl (by kernel_rfl) (by kernel_rfl) rfl (fun _ hw => (rn_ld Tryz.isAgg9 (off := 0) (o := 5) (S.tm rfl) ((S.blk_mem (i := 0) (cells := (GDeed.enc y1)) (b := b2) (T := 39) rfl (ne_nil (e' := .blk b2 (GDeed.enc y1) 39))).kept hw) rfl)) ?_;clear S;intro a S
       refine d_quiet 10 S hsel rfl rfl rfl (by kernel_rfl) (by kernel_rfl) rfl (fun _ hw => (rn_fld fa_39_6 (S.tm rfl))) ?_;clear S;intro a S
       refine d_quiet 11 S hsel rfl rfl rfl (by kernel_rfl) (by kernel_rfl) rfl (fun _ hw => (rn_ld Tryz.isAgg9 (off := 0) (o := 6) (S.tm rfl) ((S.blk_mem (i := 0) (cells := (GDeed.enc y1)) (b := b2) (T := 39) rfl (ne_nil (e' := .blk b2 (GDeed.enc y1) 39))).kept hw) rfl)) ?_;clear S;intro a S
       refine d_quiet 14 S hsel rfl rfl rfl (by kernel_rfl) (by kernel_rfl) rfl (fun _ hw => (rn_fld fa_39_7 (S.tm rfl))) ?_;clear S;intro a S
       refine d_quiet 15 S hsel rfl rfl rfl (by kernel_rfl) (by kernel_rfl) rfl (fun _ hw => (rn_ld Tryz.isAgg3 (off := 0) (o := 7) (S.tm rfl) ((S.blk_mem (i := 0) (cells := (GDeed.enc y1)) (b := b2) (T := 39) rfl (ne_nil (e' := .blk b2 (GDeed.enc y1) 39))).kept hw) rfl)) ?_;clear S;intro a S
       refine d_loud2 7 16 (by kernel_rfl) rfl rfl ?_ ?_
       ·refine l_enter S (fun _ => run_call (vs := [sV y1.Club]) ⟨(S.tm rfl), trivial⟩ Tryz.call36) (tumbref2_dash_ok _ y1.Club _ rfl) rfl ?_;clear S;intro v5 a w17 hv5 hk12 hn5 S
        subst hv5
        refine Ld (d_next hk12 ?_)
        refine d_quiet 8 S hsel rfl rfl rfl (by kernel_rfl) (by kernel_rfl) rfl (fun _ hw => (rn_sadd (m := ((k_enter_20 ++ y1.Who) ++ k__20)) (n := (tumbref2_dash y1.Club)) (S.tm rfl) (S.tm rfl) (by have := room_lt hc7;omega))) ?_;clear S;intro a S
        refine d_quiet 9 S hsel rfl rfl rfl (by kernel_rfl) (by kernel_rfl) rfl (fun _ hw => (rn_sadd (m := (((k_enter_20 ++ y1.Who) ++ k__20) ++ (tumbref2_dash y1.Club))) (n := k__20) (S.tm rfl) rfl (by have := room_lt hc8;omega))) ?_;clear S;intro a S
        refine d_quiet 12 S hsel rfl rfl rfl (by kernel_rfl) (by kernel_rfl) rfl (fun _ hw => (rn_sadd (m := ((((k_enter_20 ++ y1.Who) ++ k__20) ++ (tumbref2_dash y1.Club)) ++ k__20)) (n := y1.Race) (S.tm rfl) (S.tm rfl) (by have := room_lt hc9;omega))) ?_;clear S;intro a S
        refine d_quiet 13 S hsel rfl rfl rfl (by kernel_rfl) (by kernel_rfl) rfl (fun _ hw => (rn_sadd (m := (((((k_enter_20 ++ y1.Who) ++ k__20) ++ (tumbref2_dash y1.Club)) ++ k__20) ++ y1.Race)) (n := k__20) (S.tm rfl) rfl (by have := room_lt hc10;omega))) ?_;clear S;intro a S
        refine d_loud1 16 (by kernel_rfl) rfl (l_buildSlice S Tryz.underlying22 Tryz.sizeOf3 Tryz.zeroValue3 rfl rfl (pv := [(0, iV y1.Time)]) ⟨rfl, (S.tm rfl), trivial⟩ (cs := [iV y1.Time]) (by kernel_rfl) rfl ?_);clear S;intro a w18 b6 hz5 hk13 S
        refine Ld (d_next hk13 (d_loud1 17 (by kernel_rfl) rfl (l_enter S (fun _ => run_call (vs := [.slice (some ⟨b6, 0, none⟩) 1 1]) ⟨(S.tm rfl), trivial⟩ Tryz.call35) (tumbref2_numbers_ok _ (.slice (some ⟨b6, 0, none⟩) 1 1) [y1.Time] (lit_slcT enc_int S (i := 0) rfl rfl rfl rfl ((ne_nil (e' := .blk b6 [iV y1.Time] 3)) _ rfl)) (hg_pow10.mono (S.le_arg nil_sub)) _ hr3) rfl ?_)));clear S;intro v6 a w19 hv6 hk14 hn6 S
        subst hv6
        refine Ld (d_next hk14 (d_rest [18, 19, 20] hsel (by kernel_rfl) rfl ?_))
        clear hsel
        obtain ⟨hc11, h⟩ := chkE h
        refine s_lv S rfl (rn_sadd (m := ((((((k_enter_20 ++ y1.Who) ++ k__20) ++ (tumbref2_dash y1.Club)) ++ k__20) ++ y1.Race) ++ k__20)) (n := r2) (S.tm rfl) (S.tm rfl) (by have := room_lt hc11;omega)) rfl ?_;clear S;intro a S
        obtain ⟨hc12, h⟩ := chkE h
        refine s_lv S rfl (rn_sadd (m := (x1 ++ (((y1.Site ++ k__20) ++ r1) ++ k__20))) (n := (((((((k_enter_20 ++ y1.Who) ++ k__20) ++ (tumbref2_dash y1.Club)) ++ k__20) ++ y1.Race) ++ k__20) ++ r2)) (S.tm rfl) (S.tm rfl) (by have := room_lt hc12;omega)) rfl ?_;clear S;intro a S
        refine s_lv S rfl (Ra (S.tm rfl)) rfl ?_;clear S;intro a S
        refine s_done ?_
        replace S := S.nk [] [(3, sV ((x1 ++ (((y1.Site ++ k__20) ++ r1) ++ k__20)) ++ (((((((k_enter_20 ++ y1.Who) ++ k__20) ++ (tumbref2_dash y1.Club)) ++ k__20) ++ y1.Race) ++ k__20) ++ r2))), (6, Ab), (7, iV (Ac.length : Int)), (8, iV (i1 : Int))] [false, false] rfl (subR rfl)
        refine Tn ?_
        exact ⟨(x1 ++ (((y1.Site ++ k__20) ++ r1) ++ k__20)) ++ (((((((k_enter_20 ++ y1.Who) ++ k__20) ++ (tumbref2_dash y1.Club)) ++ k__20) ++ y1.Race) ++ k__20) ++ r2), h, S.nf [] rfl (subR rfl)⟩
       ·refine l_buildSlice S Tryz.underlying22 Tryz.sizeOf3 Tryz.zeroValue3 rfl rfl (pv := [(0, iV y1.Time)]) ⟨rfl, (S.tm rfl), trivial⟩ (cs := [iV y1.Time]) (by kernel_rfl) rfl ?_;clear S;intro a w20 b7 hz6 hk15 S
        refine Ld (d_next hk15 (d_loud1 7 (by kernel_rfl) rfl (l_enter S (fun _ => run_call (vs := [sV y1.Club]) ⟨(S.tm rfl), trivial⟩ Tryz.call36) (tumbref2_dash_ok _ y1.Club _ rfl) rfl ?_)));clear S;intro v7 a w21 hv7 hk16 hn7 S
        subst hv7
        refine Ld (d_next hk16 ?_)
        refine d_quiet 8 S hsel rfl rfl rfl (by kernel_rfl) (by kernel_rfl) rfl (fun _ hw => (rn_sadd (m := ((k_enter_20 ++ y1.Who) ++ k__20)) (n := (tumbref2_dash y1.Club)) (S.tm rfl) (S.tm rfl) (by have := room_lt hc7;omega))) ?_;clear S;intro a S
        refine d_quiet 9 S hsel rfl rfl rfl (by kernel_rfl) (by kernel_rfl) rfl (fun _ hw => (rn_sadd (m := (((k_enter_20 ++ y1.Who) ++ k__20) ++ (tumbref2_dash y1.Club))) (n := k__20) (S.tm rfl) rfl (by have := room_lt hc8;omega))) ?_;clear S;intro a S
        refine d_quiet 12 S hsel rfl rfl rfl (by kernel_rfl) (by kernel_rfl) rfl (fun _ hw => (rn_sadd (m := ((((k_enter_20 ++ y1.Who) ++ k__20) ++ (tumbref2_dash y1.Club)) ++ k__20)) (n := y1.Race) (S.tm rfl) (S.tm rfl) (by have := room_lt hc9;omega))) ?_;clear S;intro a S
        refine d_quiet 13 S hsel rfl rfl rfl (by kernel_rfl) (by kernel_rfl) rfl (fun _ hw => (rn_sadd (m := (((((k_enter_20 ++ y1.Who) ++ k__20) ++ (tumbref2_dash y1.Club)) ++ k__20) ++ y1.Race)) (n := k__20) (S.tm rfl) rfl (by have := room_lt hc10;omega))) ?_;clear S;intro a S
        refine d_loud1 17 (by kernel_rfl) rfl (l_enter S (fun _ => run_call (vs := [.slice (some ⟨b7, 0, none⟩) 1 1]) ⟨(S.tm rfl), trivial⟩ Tryz.call35) (tumbref2_numbers_ok _ (.slice (some ⟨b7, 0, none⟩) 1 1) [y1.Time] (lit_slcT enc_int S (i := 0) rfl rfl rfl rfl ((ne_nil (e' := .blk b7 [iV y1.Time] 3)) _ rfl)) (hg_pow10.mono (S.le_arg nil_sub)) _ hr3) rfl ?_);clear S;intro v8 a w22 hv8 hk17 hn8 S
        subst hv8
        refine Ld (d_next hk17 (d_rest [18, 19, 20] hsel (by kernel_rfl) rfl ?_))
        clear hsel
        obtain ⟨hc13, h⟩ := chkE h
        refine s_lv S rfl (rn_sadd (m := ((((((k_enter_20 ++ y1.Who) ++ k__20) ++ (tumbref2_dash y1.Club)) ++ k__20) ++ y1.Race) ++ k__20)) (n := r2) (S.tm rfl) (S.tm rfl) (by have := room_lt hc13;omega)) rfl ?_;clear S;intro a S
        obtain ⟨hc14, h⟩ := chkE h
        refine s_lv S rfl (rn_sadd (m := (x1 ++ (((y1.Site ++ k__20) ++ r1) ++ k__20))) (n := (((((((k_enter_20 ++ y1.Who) ++ k__20) ++ (tumbref2_dash y1.Club)) ++ k__20) ++ y1.Race) ++ k__20) ++ r2)) (S.tm rfl) (S.tm rfl) (by have := room_lt hc14;omega)) rfl ?_;clear S;intro a S
        refine s_lv S rfl (Ra (S.tm rfl)) rfl ?_;clear S;intro a S
        refine s_done ?_
        replace S := S.nk [] [(3, sV ((x1 ++ (((y1.Site ++ k__20) ++ r1) ++ k__20)) ++ (((((((k_enter_20 ++ y1.Who) ++ k__20) ++ (tumbref2_dash y1.Club)) ++ k__20) ++ y1.Race) ++ k__20) ++ r2))), (6, Ab), (7, iV (Ac.length : Int)), (8, iV (i1 : Int))] [false, false] rfl (subR rfl)
        refine Tn ?_
        exact ⟨(x1 ++ (((y1.Site ++ k__20) ++ r1) ++ k__20)) ++ (((((((k_enter_20 ++ y1.Who) ++ k__20) ++ (tumbref2_dash y1.Club)) ++ k__20) ++ y1.Race) ++ k__20) ++ r2), h, S.nf [] rfl (subR rfl)⟩
      clear S h;rintro a w12 ⟨x4, h, S⟩;rw [hj4] at h;clear hj4 j4
      refine Tn ?_
      exact ⟨x4, h, S.nf [] rfl (subR rfl)⟩
     ·replace h := iteF h hb1
      refine Fs (Fg (lv S (rn_eql (S.tm rfl) rfl) rfl ?_));clear S;intro a S
      refine lv S (Ra (S.tm rfl)) rfl ?_;clear S;intro a S
      refine Ld (Tn ?_)
      obtain ⟨j5, hj5, h⟩ := joinE h
      refine f_join (fun a w' => ∃ x5 : ByteArray, j5 x5 = some r ∧ Sx w [] nov [] [(3, sV x5), (6, Ab), (7, iV (Ac.length : Int)), (8, iV (i1 : Int))] 94 a w') ?_ ?_
      ·refine f_cond (S.tm rfl) (fun hb2 => ?_) (fun hb2 => ?_)
       ·replace h := iteT h hb2
        refine Fg (lv S (Rm (S.tm rfl)) rfl ?_);clear S;intro a S
        refine lv S (rn_fld fa_39_4 (S.tm rfl)) rfl ?_;clear S;intro a S
        refine lv S (rn_load Tryz.isAgg9 (S.tm rfl) (S.cell (i := 0) rfl rfl)) rfl ?_;clear S;intro a S
        obtain ⟨hc15, h⟩ := chkE h
        refine lv S (rn_sadd (m := k_scratch_20) (n := y1.Who) rfl (S.tm rfl) (by have := room_lt hc15;omega)) rfl ?_;clear S;intro a S
        obtain ⟨hc16, h⟩ := chkE h
        refine lv S (rn_sadd (m := (k_scratch_20 ++ y1.Who)) (n := k__20) (S.tm rfl) rfl (by have := room_lt hc16;omega)) rfl ?_;clear S;intro a S
        refine lv S (rn_fld fa_39_6 (S.tm rfl)) rfl ?_;clear S;intro a S
        refine lv S (rn_load Tryz.isAgg9 (S.tm rfl) (S.cell (i := 0) rfl rfl)) rfl ?_;clear S;intro a S
        obtain ⟨hc17, h⟩ := chkE h
        refine lv S (rn_sadd (m := ((k_scratch_20 ++ y1.Who) ++ k__20)) (n := y1.Race) (S.tm rfl) (S.tm rfl) (by have := room_lt hc17;omega)) rfl ?_;clear S;intro a S
        obtain ⟨hc18, h⟩ := chkE h
        refine lv S (rn_sadd (m := (x1 ++ (((y1.Site ++ k__20) ++ r1) ++ k__20))) (n := (((k_scratch_20 ++ y1.Who) ++ k__20) ++ y1.Race)) (S.tm rfl) (S.tm rfl) (by have := room_lt hc18;omega)) rfl ?_;clear S;intro a S
        refine lv S (Ra (S.tm rfl)) rfl ?_;clear S;intro a S
        refine Ld ?_
        replace S := S.nk [] [(3, sV ((x1 ++ (((y1.Site ++ k__20) ++ r1) ++ k__20)) ++ (((k_scratch_20 ++ y1.Who) ++ k__20) ++ y1.Race))), (6, Ab), (7, iV (Ac.length : Int)), (8, iV (i1 : Int))] [false] rfl (subR rfl)
        refine Tn ?_
        exact ⟨(x1 ++ (((y1.Site ++ k__20) ++ r1) ++ k__20)) ++ (((k_scratch_20 ++ y1.Who) ++ k__20) ++ y1.Race), h, S.nf [] rfl (subR rfl)⟩
       ·replace h := iteF h hb2
        refine Fs (Fg (lv S (rn_eql (S.tm rfl) rfl) rfl ?_));clear S;intro a S
        refine lv S (Ra (S.tm rfl)) rfl ?_;clear S;intro a S
        refine Ld (Tn ?_)
        obtain ⟨j6, hj6, h⟩ := joinE h
        refine f_join (fun a w' => ∃ x6 : ByteArray, j6 x6 = some r ∧ Sx w [] nov [] [(3, sV x6), (6, Ab), (7, iV (Ac.length : Int)), (8, iV (i1 : Int))] 94 a w') ?_ ?_
        ·refine f_cond (S.tm rfl) (fun hb3 => ?_) (fun hb3 => ?_)
         ·replace h := iteT h hb3
          obtain ⟨hc19, h⟩ := chkE h
          obtain ⟨hc20, h⟩ := chkE h
          obtain ⟨hc21, h⟩ := chkE h
          obtain ⟨hc22, h⟩ := chkE h
          obtain ⟨r3, hr4, h⟩ := bindE h
          refine d_region [] ([]) Tryz.mixed S rfl (by kernel_rfl) ?_;clear S;intro w27 hk20 hsel S
          refine d_quiet 0 S hsel rfl rfl rfl (by kernel_rfl) (by kernel_rfl) rfl (fun _ hw => (Rm (S.tm rfl))) ?_;clear S;intro a S
          refine d_quiet 1 S hsel rfl rfl rfl (by kernel_rfl) (by kernel_rfl) rfl (fun _ hw => (rn_fld fa_39_4 (S.tm rfl))) ?_;clear S;intro a S
          refine d_quiet 2 S hsel rfl rfl rfl (by kernel_rfl) (by kernel_rfl) rfl (fun _ hw => (rn_ld Tryz.isAgg9 (off := 0) (o := 4) (S.tm rfl) ((S.blk_mem (i := 0) (cells := (GDeed.enc y1)) (b := b2) (T := 39) rfl (ne_nil (e' := .blk b2 (GDeed.enc y1) 39))).kept hw) rfl)) ?_;clear S;intro a S
          refine d_quiet 3 S hsel rfl rfl rfl (by kernel_rfl) (by kernel_rfl) rfl (fun _ hw => (rn_sadd (m := k_swum_20) (n := y1.Who) rfl (S.tm rfl) (by have := room_lt hc19;omega))) ?_;clear S;intro a S
          refine d_quiet 4 S hsel rfl rfl rfl (by kernel_rfl) (by kernel_rfl) rfl (fun _ hw => (rn_sadd (m := (k_swum_20 ++ y1.Who)) (n := k__20) (S.tm rfl) rfl (by have := room_lt hc20;omega))) ?_;clear S;intro a S
          refine d_quiet 5 S hsel rfl rfl rfl (by kernel_rfl) (by kernel_rfl) rfl (fun _ hw => (rn_fld fa_39_6 (S.tm rfl))) ?_;clear S;intro a S
          refine d_quiet 6 S hsel rfl rfl rfl (by kernel_rfl) (by kernel_rfl) rfl (fun _ hw => (rn_ld Tryz.isAgg9 (off := 0) (o := 6) (S.tm rfl) ((S.blk_mem (i := 0) (cells := (GDeed.enc y1)) (b := b2) (T := 39) rfl (ne_nil (e' := .blk b2 (GDeed.enc y1) 39))).kept hw) rfl)) ?_;clear S;intro a S
          refine d_quiet 7 S hsel rfl rfl rfl (by kernel_rfl) (by kernel_rfl) rfl (fun _ hw => (rn_sadd (m := ((k_swum_20 ++ y1.Who) ++ k__20)) (n := y1.Race) (S.tm rfl) (S.tm rfl) (by have := room_lt hc21;omega))) ?_;clear S;intro a S
          refine d_quiet 8 S hsel rfl rfl rfl (by kernel_rfl) (by kernel_rfl) rfl (fun _ hw => (rn_sadd (m := (((k_swum_20 ++ y1.Who) ++ k__20) ++ y1.Race)) (n := k__20) (S.tm rfl) rfl (by have := room_lt hc22;omega))) ?_;clear S;intro a S
          refine d_quiet 9 S hsel rfl rfl rfl (by kernel_rfl) (by kernel_rfl) rfl (fun _ hw => (rn_fld fa_39_7 (S.tm rfl))) ?_;clear S;intro a S
          refine d_quiet 10 S hsel rfl rfl rfl (by kernel_rfl) (by kernel_rfl) rfl (fun _ hw => (rn_ld Tryz.isAgg3 (off := 0) (o := 7) (S.tm rfl) ((S.blk_mem (i := 0) (cells := (GDeed.enc y1)) (b := b2) (T := 39) rfl (ne_nil (e' := .blk b2 (GDeed.enc y1) 39))).kept hw) rfl)) ?_;clear S;intro a S
          refine d_quiet 11 S hsel rfl rfl rfl (by kernel_rfl) (by kernel_rfl) rfl (fun _ hw => (rn_fld fa_39_8 (S.tm rfl))) ?_;clear S;intro a S
          refine d_quiet 12 S hsel rfl rfl rfl (by kernel_rfl) (by kernel_rfl) rfl (fun _ hw => (rn_ld Tryz.isAgg3 (off := 0) (o := 8) (S.tm rfl) ((S.blk_mem (i := 0) (cells := (GDeed.enc y1)) (b := b2) (T := 39) rfl (ne_nil (e' := .blk b2 (GDeed.enc y1) 39))).kept hw) rfl)) ?_;clear S;intro a S
          refine d_loud1 13 (by kernel_rfl) rfl (l_buildSlice S Tryz.underlying22 Tryz.sizeOf3 Tryz.zeroValue3 rfl rfl (pv := [(0, iV y1.Time), (1, iV y1.Fault)]) ⟨rfl, (S.tm rfl), rfl, (S.tm rfl), trivial⟩ (cs := [iV y1.Time, iV y1.Fault]) (by kernel_rfl) rfl ?_);clear S;intro a w28 b9 hz8 hk21 S
          refine Ld (d_next hk21 (d_loud1 14 (by kernel_rfl) rfl (l_enter S (fun _ => run_call (vs := [.slice (some ⟨b9, 0, none⟩) 2 2]) ⟨(S.tm rfl), trivial⟩ Tryz.call35) (tumbref2_numbers_ok _ (.slice (some ⟨b9, 0, none⟩) 2 2) [y1.Time, y1.Fault] (lit_slcT enc_int S (i := 0) rfl rfl rfl rfl ((ne_nil (e' := .blk b9 [iV y1.Time, iV y1.Fault] 3)) _ rfl)) (hg_pow10.mono (S.le_arg nil_sub)) _ hr4) rfl ?_)));clear S;intro v10 a w29 hv10 hk22 hn10 S
          subst hv10
          refine Ld (d_next hk22 (d_rest [15, 16, 17] hsel (by kernel_rfl) rfl ?_))
          clear hsel
          obtain ⟨hc23, h⟩ := chkE h
          refine s_lv S rfl (rn_sadd (m := ((((k_swum_20 ++ y1.Who) ++ k__20) ++ y1.Race) ++ k__20)) (n := r3) (S.tm rfl) (S.tm rfl) (by have := room_lt hc23;omega)) rfl ?_;clear S;intro a S
          obtain ⟨hc24, h⟩ := chkE h
          refine s_lv S rfl (rn_sadd (m := (x1 ++ (((y1.Site ++ k__20) ++ r1) ++ k__20))) (n := (((((k_swum_20 ++ y1.Who) ++ k__20) ++ y1.Race) ++ k__20) ++ r3)) (S.tm rfl) (S.tm rfl) (by have := room_lt hc24;omega)) rfl ?_;clear S;intro a S
          refine s_lv S rfl (Ra (S.tm rfl)) rfl ?_;clear S;intro a S
          refine s_done ?_
          replace S := S.nk [] [(3, sV ((x1 ++ (((y1.Site ++ k__20) ++ r1) ++ k__20)) ++ (((((k_swum_20 ++ y1.Who) ++ k__20) ++ y1.Race) ++ k__20) ++ r3))), (6, Ab), (7, iV (Ac.length : Int)), (8, iV (i1 : Int))] [false, false] rfl (subR rfl)
          refine Tn ?_
          exact ⟨(x1 ++ (((y1.Site ++ k__20) ++ r1) ++ k__20)) ++ (((((k_swum_20 ++ y1.Who) ++ k__20) ++ y1.Race) ++ k__20) ++ r3), h, S.nf [] rfl (subR rfl)⟩
         ·replace h := iteF h hb3
          obtain ⟨hc25, h⟩ := chkE h
          obtain ⟨hc26, h⟩ := chkE h
          obtain ⟨r4, hr5, h⟩ := bindE h
          refine d_region [] ([]) Tryz.mixed S rfl (by kernel_rfl) ?_;clear S;intro w32 hk25 hsel S
          refine d_quiet 0 S hsel rfl rfl rfl (by kernel_rfl) (by kernel_rfl) rfl (fun _ hw => (Rm (S.tm rfl))) ?_;clear S;intro a S
          refine d_quiet 1 S hsel rfl rfl rfl (by kernel_rfl) (by kernel_rfl) rfl (fun _ hw => (rn_fld fa_39_9 (S.tm rfl))) ?_;clear S;intro a S
          refine d_quiet 2 S hsel rfl rfl rfl (by kernel_rfl) (by kernel_rfl) rfl (fun _ hw => (rn_ld Tryz.isAgg9 (off := 0) (o := 9) (S.tm rfl) ((S.blk_mem (i := 0) (cells := (GDeed.enc y1)) (b := b2) (T := 39) rfl (ne_nil (e' := .blk b2 (GDeed.enc y1) 39))).kept hw) rfl)) ?_;clear S;intro a S
          refine d_quiet 3 S hsel rfl rfl rfl (by kernel_rfl) (by kernel_rfl) rfl (fun _ hw => (rn_sadd (m := k_undo_20) (n := y1.Of) rfl (S.tm rfl) (by have := room_lt hc25;omega))) ?_;clear S;intro a S
          refine d_quiet 4 S hsel rfl rfl rfl (by kernel_rfl) (by kernel_rfl) rfl (fun _ hw => (rn_sadd (m := (k_undo_20 ++ y1.Of)) (n := k__20) (S.tm rfl) rfl (by have := room_lt hc26;omega))) ?_;clear S;intro a S
          refine d_quiet 5 S hsel rfl rfl rfl (by kernel_rfl) (by kernel_rfl) rfl (fun _ hw => (rn_fld fa_39_10 (S.tm rfl))) ?_;clear S;intro a S
          refine d_quiet 6 S hsel rfl rfl rfl (by kernel_rfl) (by kernel_rfl) rfl (fun _ hw => (rn_ld Tryz.isAgg3 (off := 0) (o := 10) (S.tm rfl) ((S.blk_mem (i := 0) (cells := (GDeed.enc y1)) (b := b2) (T := 39) rfl (ne_nil (e' := .blk b2 (GDeed.enc y1) 39))).kept hw) rfl)) ?_;clear S;intro a S
          refine d_loud1 7 (by kernel_rfl) rfl (l_buildSlice S Tryz.underlying22 Tryz.sizeOf3 Tryz.zeroValue3 rfl rfl (pv := [(0, iV y1.Other)]) ⟨rfl, (S.tm rfl), trivial⟩ (cs := [iV y1.Other]) (by kernel_rfl) rfl ?_);clear S;intro a w33 b11 hz10 hk26 S
          refine Ld (d_next hk26 (d_loud1 8 (by kernel_rfl) rfl (l_enter S (fun _ => run_call (vs := [.slice (some ⟨b11, 0, none⟩) 1 1]) ⟨(S.tm rfl), trivial⟩ Tryz.call35) (tumbref2_numbers_ok _ (.slice (some ⟨b11, 0, none⟩) 1 1) [y1.Other] (lit_slcT enc_int S (i := 0) rfl rfl rfl rfl ((ne_nil (e' := .blk b11 [iV y1.Other] 3)) _ rfl)) (hg_pow10.mono (S.le_arg nil_sub)) _ hr5) rfl ?_)));clear S;intro v12 a w34 hv12 hk27 hn12 S
          subst hv12
          refine Ld (d_next hk27 (d_rest [9, 10, 11] hsel (by kernel_rfl) rfl ?_))
          clear hsel
          obtain ⟨hc27, h⟩ := chkE h
          refine s_lv S rfl (rn_sadd (m := ((k_undo_20 ++ y1.Of) ++ k__20)) (n := r4) (S.tm rfl) (S.tm rfl) (by have := room_lt hc27;omega)) rfl ?_;clear S;intro a S
          obtain ⟨hc28, h⟩ := chkE h
          refine s_lv S rfl (rn_sadd (m := (x1 ++ (((y1.Site ++ k__20) ++ r1) ++ k__20))) (n := (((k_undo_20 ++ y1.Of) ++ k__20) ++ r4)) (S.tm rfl) (S.tm rfl) (by have := room_lt hc28;omega)) rfl ?_;clear S;intro a S
          refine s_lv S rfl (Ra (S.tm rfl)) rfl ?_;clear S;intro a S
          refine s_done ?_
          replace S := S.nk [] [(3, sV ((x1 ++ (((y1.Site ++ k__20) ++ r1) ++ k__20)) ++ (((k_undo_20 ++ y1.Of) ++ k__20) ++ r4))), (6, Ab), (7, iV (Ac.length : Int)), (8, iV (i1 : Int))] [false, false] rfl (subR rfl)
          refine Tn ?_
          exact ⟨(x1 ++ (((y1.Site ++ k__20) ++ r1) ++ k__20)) ++ (((k_undo_20 ++ y1.Of) ++ k__20) ++ r4), h, S.nf [] rfl (subR rfl)⟩
        clear S h;rintro a w24 ⟨x6, h, S⟩;rw [hj6] at h;clear hj6 j6
        refine Tn ?_
        exact ⟨x6, h, S.nf [] rfl (subR rfl)⟩
      clear S h;rintro a w23 ⟨x5, h, S⟩;rw [hj5] at h;clear hj5 j5
      refine Tn ?_
      exact ⟨x5, h, S.nf [] rfl (subR rfl)⟩
    clear S h;rintro a w11 ⟨x3, h, S⟩;rw [hj3] at h;clear hj3 j3
    refine blk_n (Tn ?_)
    exact ⟨x3, h, S.nf [] rfl (subR rfl)⟩
   clear S h;rintro a w10 ⟨x2, h, S⟩;rw [hj2] at h;clear hj2 j2
   refine Tn (Fg (lv S (Rm (S.tm rfl)) rfl ?_));clear S;intro a S
   obtain ⟨hc29, h⟩ := chkE h
   refine lv S (rn_sadd (m := x2) (n := k__0a) (S.tm rfl) rfl (by have := room_lt hc29;omega)) rfl ?_;clear S;intro a S
   refine lv S (Ra (S.tm rfl)) rfl ?_;clear S;intro a S
   refine Ld (blk_n (Tn (Fg (lv S (rn_add (S.tm rfl) rfl) rfl ?_))));clear S;intro a S
   refine lv S (Rm (S.tm rfl)) rfl ?_;clear S;intro a S
   refine Ld (Tn ?_)
   exact ⟨ys1, ⟨i1 + 1, x2 ++ k__0a, ⟨_, (hd1).trans (List.append_cons _ _ _), by simp [hi1]⟩, h, S.nf [] rfl ⟨rfl, rfl, rfl, (congrArg (fun z => some (Value.int .i64 z)) (rng_next hd1 hi1 (slc_max Ao))), trivial⟩⟩, Nat.lt_succ_self _⟩
 clear S h;rintro a w2 ⟨x1, h, S⟩;rw [hj1] at h;clear hj1 j1
 refine Tn (Fs (Fg (lv S (Rm (S.tm rfl)) rfl ?_)));clear S;intro a S
 refine lv S (Ra (S.tm rfl)) rfl ?_;clear S;intro a S
 refine Ld (Tn (wp_ret ?_))
 obtain rfl := Option.some.inj h
 exact f_ret S Tryz.results9 rfl rfl
set_option maxRecDepth 20000 in
theorem Stream_Changed_ok (w : World) (O : Nat) (U : Value) (Ah : List Int) (Ai : Slc (view w [O]) 1 U (Ah.map eInt)) (Af : Int) (Aw : (LEnt.blk O [U, iV Af] 25).holds w) (Bh : ByteArray) (Cd : ByteArray) (r : ByteArray × Int) (h : Stream_Changed Ah Af Bh Cd = some r) :
    Calls Tryz.prog 22 [.pointer (some ⟨O, 0, none⟩), sV Bh, sV Cd].toArray w (Ret w [O] fun _ v w' => (LEnt.blk O [U, iV r.2] 25).holds w' ∧ v = sV r.1) := by
 refine f_enter [O] [.blk O [U, iV Af] 25] Tryz.func22 rfl Tryz.ntmps22 rfl (fun e he => by simp only [List.mem_singleton] at he;subst he;exact Aw) (by simp [fps, LEnt.fp]) (by simp [fps, LEnt.fp]) fun a S => ?_
 unfold Stream_Changed at h
 replace S := S.nk [.blk O [U, iV Af] 25] [(0, .pointer (some ⟨O, 0, none⟩)), (1, sV Bh), (2, sV Cd)] [true] rfl (subR rfl)
 refine Fs (Fg (lv S (Ra rfl) rfl ?_));clear S;intro a S
 refine Ld (Tn (Fs (Fs (Fg (lv S (Rm (S.tm rfl)) rfl ?_)))));clear S;intro a S
 refine lv S (rn_seql (S.tm rfl) rfl) rfl ?_;clear S;intro a S
 refine lv S (Rm (S.tm rfl)) rfl ?_;clear S;intro a S
 refine f_cutm 3 (fun a w' => Keep [] w w' ∧ Sx w [O] nov [.blk O [U, iV Af] 25] [(0, .pointer (some ⟨O, 0, none⟩)), (1, sV Bh), (2, sV Cd), (14, bV ((decide (Bh = k_empty)) || (decide (Cd = k_empty))))] 63 a w') ?_ ?_
 ·rcases Bool.eq_false_or_eq_true (decide (Bh = k_empty)) with hb1 | hb1
  ·refine l_skip S rfl rfl rfl (neq_t hb1) rfl ?_ rfl;clear S;intro a S
   refine l_skip S rfl rfl rfl (neq_t hb1) rfl ?_ rfl;clear S;intro a S
   refine lv S (rn_or_t (decide (Cd = k_empty)) hb1 (S.tm rfl) rfl) rfl ?_;clear S;intro a S
   refine Ld (Tn ?_)
   exact ⟨Keep.refl _ _, S.nf [true] rfl (subR rfl)⟩
  ·refine l_want S rfl rfl rfl hb1 (lv S (Rm (S.tm rfl)) rfl ?_);clear S;intro a S
   refine l_want S rfl rfl rfl hb1 (lv S (rn_seql (S.tm rfl) rfl) rfl ?_);clear S;intro a S
   refine lv S (rn_or_f hb1 (S.tm rfl) (S.tm rfl)) rfl ?_;clear S;intro a S
   refine Ld (Tn ?_)
   exact ⟨Keep.refl _ _, S.nf [true] rfl (subR rfl)⟩
 clear S;rintro a w1 ⟨hk1, S⟩
 refine Ld (Tn (f_cond (S.tm rfl) (fun hb2 => ?_) (fun hb2 => ?_)))
 ·replace h := iteT h hb2
  refine Fs (Fg (lv S (Rm (S.tm rfl)) rfl ?_));clear S;intro a S
  refine lv S (Ra (S.tm rfl)) rfl ?_;clear S;intro a S
  refine Ld (Tn (wp_ret (then_r ?_)))
  obtain rfl := Option.some.inj h
  exact f_ret S Tryz.results22 rfl ⟨(S.holds _ (List.mem_of_getElem? (i := 0) rfl)), rfl⟩
 ·replace h := iteF h hb2
  refine wp_skip (Tn (Fs (Fg (lv S (Rm (S.tm rfl)) rfl ?_))));clear S;intro a S
  refine lv S (Rm (S.tm rfl)) rfl ?_;clear S;intro a S
  refine lv S (rn_len_str Tryz.underlying9 (S.tm rfl)) rfl ?_;clear S;intro a S
  obtain ⟨r1, hr1, h⟩ := bindE h
  refine l_enter1 0 S (b := O) rfl rfl (fun _ => .blk O [U, iV r1.2] 25) (fun _ => run_call (vs := [.pointer (some ⟨O, 0, none⟩), iV (Bh.size : Int)]) ⟨(S.tm rfl), (S.tm rfl), trivial⟩ Tryz.call17) (Stream_Next_ok _ O U Ah (Ai.mono (S.le_arg (fp_sub (i := 0) (e := .blk O [U, iV Af] 25) rfl))) Af (S.holds _ (List.mem_of_getElem? (i := 0) rfl)) (Bh.size : Int) _ hr1) rfl (fun _ _ _ h => ⟨h.1, fun _ hc => by cases hc;rfl⟩) ?_;clear S;intro v1 a w2 hv1 hk2 hn1 S
  replace hv1 := hv1.2
  subst hv1
  refine lv S (Ra (S.tm rfl)) rfl ?_;clear S;intro a S
  refine Ld (Tn (Fs (Fg (lv S (Rm (S.tm rfl)) rfl ?_))));clear S;intro a S
  refine lv S (Rm (S.tm rfl)) rfl ?_;clear S;intro a S
  refine lv S (Rm (S.tm rfl)) rfl ?_;clear S;intro a S
  refine lv S (rn_len_str Tryz.underlying9 (S.tm rfl)) rfl ?_;clear S;intro a S
  obtain ⟨r2, hr2, h⟩ := bindE h
  refine l_enter1 0 S (b := O) rfl rfl (fun _ => .blk O [U, iV r2.2] 25) (fun _ => run_call (vs := [.pointer (some ⟨O, 0, none⟩), iV (Cd.size : Int)]) ⟨(S.tm rfl), (S.tm rfl), trivial⟩ Tryz.call17) (Stream_Next_ok _ O U Ah (Ai.mono (S.le_arg (fp_sub (i := 0) (e := .blk O [U, iV r1.2] 25) rfl))) r1.2 (S.holds _ (List.mem_of_getElem? (i := 0) rfl)) (Cd.size : Int) _ hr2) rfl (fun _ _ _ h => ⟨h.1, fun _ hc => by cases hc;rfl⟩) ?_;clear S;intro v2 a w3 hv2 hk3 hn2 S
  replace hv2 := hv2.2
  subst hv2
  obtain ⟨hc1, h⟩ := chkE h
  refine lv S (rn_sindexT Tryz.underlying9 (S.tm rfl) (S.tm rfl) hc1) rfl ?_;clear S;intro a S
  refine lv S (Ra (S.tm rfl)) rfl ?_;clear S;intro a S
  refine Ld ?_
  replace S := S.nk [.blk O [U, iV r2.2] 25] [(0, .pointer (some ⟨O, 0, none⟩)), (1, sV Bh), (7, iV r1.1), (8, .int .u8 (sbyte Cd r2.1))] [true] rfl (subR rfl)
  refine Tn (Fs (Fs (Fg (lv S (Rm (S.tm rfl)) rfl ?_))));clear S;intro a S
  obtain ⟨r3, hr3, h⟩ := bindE h
  refine l_enter1 0 S (b := O) rfl rfl (fun _ => .blk O [U, iV r3.2] 25) (fun _ => run_call (vs := [.pointer (some ⟨O, 0, none⟩), iV 3]) ⟨(S.tm rfl), rfl, trivial⟩ Tryz.call17) (Stream_Next_ok _ O U Ah (Ai.mono (S.le_arg (fp_sub (i := 0) (e := .blk O [U, iV r2.2] 25) rfl))) r2.2 (S.holds _ (List.mem_of_getElem? (i := 0) rfl)) 3 _ hr3) rfl (fun _ _ _ h => ⟨h.1, fun _ hc => by cases hc;rfl⟩) ?_;clear S;intro v3 a w4 hv3 hk4 hn3 S
  replace hv3 := hv3.2
  subst hv3
  refine Ld (Tn (wp_block (Fs (Fg (lv S (rn_eql (S.tm rfl) rfl) rfl ?_)))));clear S;intro a S
  refine lv S (Ra (S.tm rfl)) rfl ?_;clear S;intro a S
  refine Ld (Tn (f_cond (S.tm rfl) (fun hb3 => ?_) (fun hb3 => ?_)))
  ·replace h := iteT h hb3
   refine Fs (d_region [] ([]) Tryz.mixed S rfl (by kernel_rfl) ?_);clear S;intro w5 hk5 hsel S
   refine d_rest [0, 1, 2, 3, 4, 5, 6, 7, 8, 9, 10, 11, 12] hsel (by kernel_rfl) rfl ?_
   clear hsel
   refine s_lv S rfl (Rm (S.tm rfl)) rfl ?_;clear S;intro a S
   refine s_lv S rfl (Rm (S.tm rfl)) rfl ?_;clear S;intro a S
   obtain ⟨hc2, h⟩ := chkE h
   refine s_lv S rfl (rn_scutTh Tryz.underlying9 (S.tm rfl) (S.tm rfl) hc2) rfl ?_;clear S;intro a S
   refine s_lv S rfl (Rm (S.tm rfl)) rfl ?_;clear S;intro a S
   refine s_lv S rfl (rn_conv Tryz.underlying5 Tryz.underlying21 (S.tm rfl)) rfl ?_;clear S;intro a S
   refine s_lv S rfl (rn_runestr Tryz.underlying21 Tryz.underlying9 (S.tm rfl)) rfl ?_;clear S;intro a S
   obtain ⟨hc3, h⟩ := chkE h
   refine s_lv S rfl (rn_sadd (m := (scut Bh 0 r1.1)) (n := (Utf8.encode (IntKind.wrap .i32 (sbyte Cd r2.1)))) (S.tm rfl) (S.tm rfl) (by have := room_lt hc3;omega)) rfl ?_;clear S;intro a S
   refine s_lv S rfl (Rm (S.tm rfl)) rfl ?_;clear S;intro a S
   refine s_lv S rfl (Rm (S.tm rfl)) rfl ?_;clear S;intro a S
   refine s_lv S rfl (rn_add (S.tm rfl) rfl) rfl ?_;clear S;intro a S
   obtain ⟨hc4, h⟩ := chkE h
   refine s_lv S rfl (rn_scutTl Tryz.underlying9 (S.tm rfl) (S.tm rfl) hc4) rfl ?_;clear S;intro a S
   obtain ⟨hc5, h⟩ := chkE h
   refine s_lv S rfl (rn_sadd (m := ((scut Bh 0 r1.1) ++ (Utf8.encode (IntKind.wrap .i32 (sbyte Cd r2.1))))) (n := (scut Bh (W (r1.1 + 1)) Bh.size)) (S.tm rfl) (S.tm rfl) (by have := room_lt hc5;omega)) rfl ?_;clear S;intro a S
   refine s_lv S rfl (Ra (S.tm rfl)) rfl ?_;clear S;intro a S
   refine s_done ?_
   replace S := S.nk [.blk O [U, iV r3.2] 25] [(6, sV (((scut Bh 0 r1.1) ++ (Utf8.encode (IntKind.wrap .i32 (sbyte Cd r2.1)))) ++ (scut Bh (W (r1.1 + 1)) Bh.size)))] [true] rfl ⟨rfl, trivial⟩
   refine Tn (wp_ret (blk_r (then_r ?_)))
   obtain rfl := Option.some.inj h
   exact f_ret S Tryz.results22 rfl ⟨(S.holds _ (List.mem_of_getElem? (i := 0) rfl)), rfl⟩
  ·replace h := iteF h hb3
   refine Fs (Fg (lv S (rn_eql (S.tm rfl) rfl) rfl ?_));clear S;intro a S
   refine lv S (Ra (S.tm rfl)) rfl ?_;clear S;intro a S
   refine Ld (Tn (f_cond (S.tm rfl) (fun hb4 => ?_) (fun hb4 => ?_)))
   ·replace h := iteT h hb4
    refine Fs (d_region [] ([]) Tryz.mixed S rfl (by kernel_rfl) ?_);clear S;intro w6 hk6 hsel S
    refine d_rest [0, 1, 2, 3, 4, 5, 6, 7, 8, 9, 10, 11] hsel (by kernel_rfl) rfl ?_
    clear hsel
    refine s_lv S rfl (Rm (S.tm rfl)) rfl ?_;clear S;intro a S
    refine s_lv S rfl (Rm (S.tm rfl)) rfl ?_;clear S;intro a S
    obtain ⟨hc6, h⟩ := chkE h
    refine s_lv S rfl (rn_scutTh Tryz.underlying9 (S.tm rfl) (S.tm rfl) hc6) rfl ?_;clear S;intro a S
    refine s_lv S rfl (Rm (S.tm rfl)) rfl ?_;clear S;intro a S
    refine s_lv S rfl (rn_conv Tryz.underlying5 Tryz.underlying21 (S.tm rfl)) rfl ?_;clear S;intro a S
    refine s_lv S rfl (rn_runestr Tryz.underlying21 Tryz.underlying9 (S.tm rfl)) rfl ?_;clear S;intro a S
    obtain ⟨hc7, h⟩ := chkE h
    refine s_lv S rfl (rn_sadd (m := (scut Bh 0 r1.1)) (n := (Utf8.encode (IntKind.wrap .i32 (sbyte Cd r2.1)))) (S.tm rfl) (S.tm rfl) (by have := room_lt hc7;omega)) rfl ?_;clear S;intro a S
    refine s_lv S rfl (Rm (S.tm rfl)) rfl ?_;clear S;intro a S
    refine s_lv S rfl (Rm (S.tm rfl)) rfl ?_;clear S;intro a S
    obtain ⟨hc8, h⟩ := chkE h
    refine s_lv S rfl (rn_scutTl Tryz.underlying9 (S.tm rfl) (S.tm rfl) hc8) rfl ?_;clear S;intro a S
    obtain ⟨hc9, h⟩ := chkE h
    refine s_lv S rfl (rn_sadd (m := ((scut Bh 0 r1.1) ++ (Utf8.encode (IntKind.wrap .i32 (sbyte Cd r2.1))))) (n := (scut Bh r1.1 Bh.size)) (S.tm rfl) (S.tm rfl) (by have := room_lt hc9;omega)) rfl ?_;clear S;intro a S
    refine s_lv S rfl (Ra (S.tm rfl)) rfl ?_;clear S;intro a S
    refine s_done ?_
    replace S := S.nk [.blk O [U, iV r3.2] 25] [(6, sV (((scut Bh 0 r1.1) ++ (Utf8.encode (IntKind.wrap .i32 (sbyte Cd r2.1)))) ++ (scut Bh r1.1 Bh.size)))] [true] rfl ⟨rfl, trivial⟩
    refine Tn (wp_ret (blk_r (then_r ?_)))
    obtain rfl := Option.some.inj h
    exact f_ret S Tryz.results22 rfl ⟨(S.holds _ (List.mem_of_getElem? (i := 0) rfl)), rfl⟩
   ·replace h := iteF h hb4
    refine wp_skip (blk_n (Tn (Fs (d_region [] ([]) Tryz.mixed S rfl (by kernel_rfl) ?_))));clear S;intro w7 hk7 hsel S
    refine d_rest [0, 1, 2, 3, 4, 5, 6, 7, 8] hsel (by kernel_rfl) rfl ?_
    clear hsel
    refine s_lv S rfl (Rm (S.tm rfl)) rfl ?_;clear S;intro a S
    refine s_lv S rfl (Rm (S.tm rfl)) rfl ?_;clear S;intro a S
    obtain ⟨hc10, h⟩ := chkE h
    refine s_lv S rfl (rn_scutTh Tryz.underlying9 (S.tm rfl) (S.tm rfl) hc10) rfl ?_;clear S;intro a S
    refine s_lv S rfl (Rm (S.tm rfl)) rfl ?_;clear S;intro a S
    refine s_lv S rfl (Rm (S.tm rfl)) rfl ?_;clear S;intro a S
    refine s_lv S rfl (rn_add (S.tm rfl) rfl) rfl ?_;clear S;intro a S
    obtain ⟨hc11, h⟩ := chkE h
    refine s_lv S rfl (rn_scutTl Tryz.underlying9 (S.tm rfl) (S.tm rfl) hc11) rfl ?_;clear S;intro a S
    obtain ⟨hc12, h⟩ := chkE h
    refine s_lv S rfl (rn_sadd (m := (scut Bh 0 r1.1)) (n := (scut Bh (W (r1.1 + 1)) Bh.size)) (S.tm rfl) (S.tm rfl) (by have := room_lt hc12;omega)) rfl ?_;clear S;intro a S
    refine s_lv S rfl (Ra (S.tm rfl)) rfl ?_;clear S;intro a S
    refine s_done ?_
    replace S := S.nk [.blk O [U, iV r3.2] 25] [(6, sV ((scut Bh 0 r1.1) ++ (scut Bh (W (r1.1 + 1)) Bh.size)))] [true] rfl ⟨rfl, trivial⟩
    refine Tn (wp_ret ?_)
    obtain rfl := Option.some.inj h
    exact f_ret S Tryz.results22 rfl ⟨(S.holds _ (List.mem_of_getElem? (i := 0) rfl)), rfl⟩
theorem Stream_DeedText_ok (w : World) (O : Nat) (U : Value) (Ah : List Int) (Ai : Slc (view w [O]) 1 U (Ah.map eInt)) (Af : Int) (Aw : (LEnt.blk O [U, iV Af] 25).holds w) (hg_pow10 : Glob (view w [O]) 1 pow10Cells) (r : ByteArray × Int) (h : Stream_DeedText Ah Af = some r) :
    Calls Tryz.prog 6 [.pointer (some ⟨O, 0, none⟩)].toArray w (Ret w [O] fun _ v w' => (LEnt.blk O [U, iV r.2] 25).holds w' ∧ v = sV r.1) := by
 refine f_enter [O] [.blk O [U, iV Af] 25] Tryz.func6 rfl Tryz.ntmps6 rfl (fun e he => by simp only [List.mem_singleton] at he;subst he;exact Aw) (by simp [fps, LEnt.fp]) (by simp [fps, LEnt.fp]) fun a S => ?_
 unfold Stream_DeedText at h
 replace S := S.nk [.blk O [U, iV Af] 25] [(0, .pointer (some ⟨O, 0, none⟩))] [true] rfl ⟨rfl, trivial⟩
 refine Fs (Fg (lv S (Ra rfl) rfl ?_));clear S;intro a S
 refine Ld (Tn (Fs (Fg (lv S (Rm (S.tm rfl)) rfl ?_))));clear S;intro a S
 refine lv S (Rm (S.tm rfl)) rfl ?_;clear S;intro a S
 obtain ⟨r1, hr1, h⟩ := bindE h
 refine l_enter1 0 S (b := O) rfl rfl (fun _ => .blk O [U, iV r1.2] 25) (fun _ => run_call (vs := [.pointer (some ⟨O, 0, none⟩), iV 0, iV 4]) ⟨(S.tm rfl), rfl, rfl, trivial⟩ Tryz.call5) (Stream_Range_ok _ O U Ah (Ai.mono (S.le_arg (fp_sub (i := 0) (e := .blk O [U, iV Af] 25) rfl))) Af (S.holds _ (List.mem_of_getElem? (i := 0) rfl)) 0 4 _ hr1) rfl (fun _ _ _ h => ⟨h.1, fun _ hc => by cases hc;rfl⟩) ?_;clear S;intro v1 a w1 hv1 hk1 hn1 S
 replace hv1 := hv1.2
 subst hv1
 obtain ⟨r2, hr2, h⟩ := bindE h
 have hz1 := S.keep.size
 refine l_enter1 0 S (b := O) rfl rfl (fun _ => .blk O [U, iV r2.2] 25) (fun _ => run_call (vs := [.pointer (some ⟨O, 0, none⟩), iV r1.1]) ⟨(S.tm rfl), (S.tm rfl), trivial⟩ Tryz.call21) (Stream_RightDeeds_ok _ O U Ah (Ai.mono (S.le_arg (fp_sub (i := 0) (e := .blk O [U, iV r1.2] 25) rfl))) r1.2 (S.holds _ (List.mem_of_getElem? (i := 0) rfl)) r1.1 _ hr2) rfl (fun _ _ _ h => ⟨h.1, fun _ hc => by cases hc;rfl⟩) ?_;clear S;intro v2 a w2 hv2 hk2 hn2 S
 replace hv2 := hv2.2
 obtain ⟨φ1, hl1, hm1, S⟩ := S.see' hn2 hz1
 have hs1 := hv2.mono hm1
 obtain ⟨r3, hr3, h⟩ := bindE h
 refine l_enter S (fun _ => run_call (vs := [v2]) ⟨(S.tm rfl), trivial⟩ Tryz.call9) (tumbref2_DeedLines_ok _ v2 r2.1 ((ownV_slcT GDeed.enc_ok hs1).mono (S.le_new nil_sub)) (hg_pow10.mono (S.le_arg nil_sub)) _ hr3) rfl ?_;clear S;intro v3 a w3 hv3 hk3 hn3 S
 subst hv3
 refine lv S (Ra (S.tm rfl)) rfl ?_;clear S;intro a S
 refine Ld (Tn (Fs (Fs (Fg (lv S (Rm (S.tm rfl)) rfl ?_)))));clear S;intro a S
 refine l_buildSlice S Tryz.underlying22 Tryz.sizeOf3 Tryz.zeroValue3 rfl rfl (pv := [(0, iV 0), (1, iV 0), (2, iV 1), (3, iV 2)]) ⟨rfl, rfl, rfl, rfl, rfl, rfl, rfl, rfl, trivial⟩ (cs := [iV 0, iV 0, iV 1, iV 2]) (by kernel_rfl) rfl ?_;clear S;intro a w4 b1 hz2 hk4 S
 obtain ⟨r4, hr4, h⟩ := bindE h
 refine l_enter1 1 S (b := O) rfl rfl (fun _ => .blk O [U, iV r4.2] 25) (fun _ => run_call (vs := [.pointer (some ⟨O, 0, none⟩), .slice (some ⟨b1, 0, none⟩) 4 4]) ⟨(S.tm rfl), (S.tm rfl), trivial⟩ Tryz.call14) (Stream_Pick_ok _ O U Ah (Ai.mono (S.le_arg (fp_sub (i := 1) (e := .blk O [U, iV r2.2] 25) rfl))) r2.2 (S.holds _ (List.mem_of_getElem? (i := 1) rfl)) (.slice (some ⟨b1, 0, none⟩) 4 4) [0, 0, 1, 2] (lit_slcT enc_int S (i := 0) rfl rfl rfl rfl ((ne_fp (i := 1) (j := 0) (e := .blk O [U, iV r2.2] 25) (e' := .blk b1 [iV 0, iV 0, iV 1, iV 2] 3) S rfl rfl rfl) _ rfl)) _ hr4) rfl (fun _ _ _ h => ⟨h.1, fun _ hc => by cases hc;rfl⟩) ?_;clear S;intro v4 a w5 hv4 hk5 hn4 S
 replace hv4 := hv4.2
 subst hv4
 refine lv S (Rm rfl) rfl ?_;clear S;intro a S
 refine Ld (Tn ?_)
 replace S := S.nk [.blk O [U, iV r4.2] 25] [(0, .pointer (some ⟨O, 0, none⟩)), (3, sV r3), (11, iV r4.1), (12, iV 0)] [false, true] rfl (subR rfl)
 obtain ⟨j1, hj1, h⟩ := joinE h
 refine f_join (fun a w' => ∃ x1 : Int, ∃ x2 : ByteArray, j1 x1 x2 = some r ∧ Sx w [O] φ1 [.blk O [U, iV x1] 25] [(3, sV x2)] 19 a w') ?_ ?_
 ·refine wp_block (f_loop (fun (m1 : Nat) a w' => ∃ x1 : Int, ∃ x2 : ByteArray, ∃ x3 : Int, Stream_DeedText_l1 r4 Ah j1 m1 x1 x2 x3 = some r ∧ Sx w [O] φ1 [.blk O [U, iV x1] 25] [(0, .pointer (some ⟨O, 0, none⟩)), (3, sV x2), (11, iV r4.1), (12, iV x3)] 19 a w') id ((r4.1 - 0).toNat + 2) ⟨r4.2, r3, 0, h, S.nf [true] rfl (subR rfl)⟩ ?_)
  clear S h;rintro m1 a w6 ⟨x1, x2, x3, h, S⟩
  cases m1 with
  | zero => rw [Stream_DeedText_l1.eq_1] at h;cases h
  | succ m1 =>
   rw [Stream_DeedText_l1.eq_2] at h
   refine Fs (Fg (lv S (rn_lss (S.tm rfl) (S.tm rfl)) rfl ?_));clear S;intro a S
   refine Ld (Tn (Fs (f_cond (S.tm rfl) (fun hb1 => ?_) (fun hb1 => ?_))))
   ·replace h := iteT h hb1
    refine wp_skip (Tn (Fs (wp_block (Fg (lv S (Rm (S.tm rfl)) rfl ?_)))));clear S;intro a S
    refine lv S (Rm (S.tm rfl)) rfl ?_;clear S;intro a S
    obtain ⟨r5, hr5, h⟩ := bindE h
    refine l_enter1 0 S (b := O) rfl rfl (fun _ => .blk O [U, iV r5.2] 25) (fun _ => run_call (vs := [.pointer (some ⟨O, 0, none⟩), sV x2, sV k__20_0a0_2d9sra]) ⟨(S.tm rfl), (S.tm rfl), rfl, trivial⟩ Tryz.call22) (Stream_Changed_ok _ O U Ah (Ai.mono (S.le_arg (fp_sub (i := 0) (e := .blk O [U, iV x1] 25) rfl))) x1 (S.holds _ (List.mem_of_getElem? (i := 0) rfl)) x2 k__20_0a0_2d9sra _ hr5) rfl (fun _ _ _ h => ⟨h.1, fun _ hc => by cases hc;rfl⟩) ?_;clear S;intro v5 a w8 hv5 hk6 hn5 S
    replace hv5 := hv5.2
    subst hv5
    refine lv S (Ra (S.tm rfl)) rfl ?_;clear S;intro a S
    refine Ld (blk_n (Tn (Fg (lv S (rn_add (S.tm rfl) rfl) rfl ?_))));clear S;intro a S
    refine lv S (Rm (S.tm rfl)) rfl ?_;clear S;intro a S
    refine Ld (Tn ?_)
    exact ⟨m1, ⟨r5.2, r5.1, W (x3 + 1), h, S.nf [true] rfl ⟨rfl, rfl, rfl, rfl, trivial⟩⟩, Nat.lt_succ_self _⟩
   ·replace h := iteF h hb1
    refine wp_exit (then_x (then_x (x_same (Tn ?_))))
    exact ⟨x1, x2, h, S.nf [true] rfl ⟨rfl, trivial⟩⟩
 clear S h;rintro a w7 ⟨x1, x2, h, S⟩;rw [hj1] at h;clear hj1 j1
 refine Tn (Fs (Fg (lv S (Rm (S.tm rfl)) rfl ?_)));clear S;intro a S
 refine lv S (Ra (S.tm rfl)) rfl ?_;clear S;intro a S
 refine Ld (Tn (wp_ret ?_))
 obtain rfl := Option.some.inj h
 exact f_ret S Tryz.results6 rfl ⟨(S.holds _ (List.mem_of_getElem? (i := 0) rfl)), rfl⟩
theorem strings_Trim_ok (w : World) (s c : ByteArray) (r : ByteArray) (h : strings_Trim s c = some r) : Calls Tryz.prog 86 [.string s, .string c].toArray w (Ret w [] fun _ v _ => v = .string r) := by
  unfold strings_Trim at h
  obtain ⟨h1, h⟩ := chkE h
  obtain ⟨h2, h⟩ := chkE h
  obtain ⟨h3, h⟩ := chkE h
  obtain rfl := Option.some.inj h
  exact ret_of_below (Any.strings_Trim_laid Tryz.lays160 (by kernel_rfl) s c w (by simpa using h1) (by simpa using h2) (fun j b hb => by simpa using List.all_eq_true.1 h3 b (List.mem_of_getElem? hb)))
theorem words_IsKey_ok (w : World) (Ad : ByteArray) (r : Bool) (h : words_IsKey Ad = some r) :
    Calls Tryz.prog 74 [sV Ad].toArray w (Ret w [] fun _ v _ => v = bV r) := by
 refine f_enter [] [] Tryz.func74 rfl Tryz.ntmps74 rfl (by simp) (by simp [fps]) (by simp [fps]) fun a S => ?_
 unfold words_IsKey at h
 replace S := S.nk [] [(0, sV Ad)] [] rfl ⟨rfl, trivial⟩
 refine Fs (Fg (lv S (Ra rfl) rfl ?_));clear S;intro a S
 refine Ld (Tn (Fs (Fg (lv S (Rm (S.tm rfl)) rfl ?_))));clear S;intro a S
 refine lv S (rn_len_str Tryz.underlying9 (S.tm rfl)) rfl ?_;clear S;intro a S
 refine lv S (rn_geq (S.tm rfl) rfl) rfl ?_;clear S;intro a S
 refine lv S (Rm (S.tm rfl)) rfl ?_;clear S;intro a S
 refine f_cutm 4 (fun a w' => Keep [] w w' ∧ Sx w [] nov [] [(0, sV Ad), (10, bV ((decide (1 ≤ (Ad.size : Int))) && (decide ((Ad.size : Int) ≤ 40))))] 26 a w') ?_ ?_
 ·rcases Bool.eq_false_or_eq_true (decide (1 ≤ (Ad.size : Int))) with hb1 | hb1
  ·refine l_want S rfl rfl rfl hb1 (lv S (Rm (S.tm rfl)) rfl ?_);clear S;intro a S
   refine l_want S rfl rfl rfl hb1 (lv S (rn_len_str Tryz.underlying9 (S.tm rfl)) rfl ?_);clear S;intro a S
   refine l_want S rfl rfl rfl hb1 (lv S (rn_leq (S.tm rfl) rfl) rfl ?_);clear S;intro a S
   refine lv S (rn_and_t hb1 (S.tm rfl) (S.tm rfl)) rfl ?_;clear S;intro a S
   refine Ld (Tn ?_)
   exact ⟨Keep.refl _ _, S.nf [] rfl (subR rfl)⟩
  ·iterate 3 (refine l_skip S rfl rfl rfl (neq_f hb1) rfl ?_ rfl;clear S;intro a S)
   refine lv S (rn_and_f (decide ((Ad.size : Int) ≤ 40)) hb1 (S.tm rfl) rfl) rfl ?_;clear S;intro a S
   refine Ld (Tn ?_)
   exact ⟨Keep.refl _ _, S.nf [] rfl (subR rfl)⟩
 clear S;rintro a w1 ⟨hk1, S⟩
 refine lv S (Rm (S.tm rfl)) rfl ?_;clear S;intro a S
 obtain ⟨j1, hj1, h⟩ := joinE h
 refine f_cutm 4 (fun a w' => ∃ c1, j1 c1 = some r ∧ Keep [] w1 w' ∧ Sx w [] nov [] [(0, sV Ad), (15, bV c1)] 26 a w') ?_ ?_
 ·rcases Bool.eq_false_or_eq_true ((decide (1 ≤ (Ad.size : Int))) && (decide ((Ad.size : Int) ≤ 40))) with hb2 | hb2
  ·replace h := iteT h hb2
   refine l_want S rfl rfl rfl hb2 (lv S (Rm (S.tm rfl)) rfl ?_);clear S;intro a S
   refine l_want S rfl rfl rfl hb2 ?_
   obtain ⟨hc1, h⟩ := chkE h
   refine lv S (rn_sindexT Tryz.underlying9 (S.tm rfl) rfl hc1) rfl ?_;clear S;intro a S
   refine l_want S rfl rfl rfl hb2 (lv S (rn_geq (S.tm rfl) rfl) rfl ?_);clear S;intro a S
   refine lv S (rn_and_t hb2 (S.tm rfl) (S.tm rfl)) rfl ?_;clear S;intro a S
   refine Ld (Tn ?_)
   exact ⟨_, h, Keep.refl _ _, S.nf [] rfl (subR rfl)⟩
  ·replace h := iteF h hb2
   iterate 3 (refine l_skip S rfl rfl rfl (neq_f hb2) rfl ?_ rfl;clear S;intro a S)
   refine lv S (rn_and_f true hb2 (S.tm rfl) rfl) rfl ?_;clear S;intro a S
   refine Ld (Tn ?_)
   exact ⟨_, h, Keep.refl _ _, S.nf [] rfl (subR rfl)⟩
 clear S h;rintro a w2 ⟨c1, h, hk2, S⟩;rw [hj1] at h;clear hj1 j1
 refine lv S (Rm (S.tm rfl)) rfl ?_;clear S;intro a S
 obtain ⟨j2, hj2, h⟩ := joinE h
 refine f_cutm 4 (fun a w' => ∃ c2, j2 c2 = some r ∧ Keep [] w2 w' ∧ Sx w [] nov [] [(0, sV Ad), (20, bV c2)] 26 a w') ?_ ?_
 ·rcases Bool.eq_false_or_eq_true c1 with hb3 | hb3
  ·replace h := iteT h hb3
   refine l_want S rfl rfl rfl hb3 (lv S (Rm (S.tm rfl)) rfl ?_);clear S;intro a S
   refine l_want S rfl rfl rfl hb3 ?_
   obtain ⟨hc2, h⟩ := chkE h
   refine lv S (rn_sindexT Tryz.underlying9 (S.tm rfl) rfl hc2) rfl ?_;clear S;intro a S
   refine l_want S rfl rfl rfl hb3 (lv S (rn_leq (S.tm rfl) rfl) rfl ?_);clear S;intro a S
   refine lv S (rn_and_t hb3 (S.tm rfl) (S.tm rfl)) rfl ?_;clear S;intro a S
   refine Ld (Tn ?_)
   exact ⟨_, h, Keep.refl _ _, S.nf [] rfl (subR rfl)⟩
  ·replace h := iteF h hb3
   iterate 3 (refine l_skip S rfl rfl rfl (neq_f hb3) rfl ?_ rfl;clear S;intro a S)
   refine lv S (rn_and_f true hb3 (S.tm rfl) rfl) rfl ?_;clear S;intro a S
   refine Ld (Tn ?_)
   exact ⟨_, h, Keep.refl _ _, S.nf [] rfl (subR rfl)⟩
 clear S h;rintro a w3 ⟨c2, h, hk3, S⟩;rw [hj2] at h;clear hj2 j2
 refine lv S (Rm (S.tm rfl)) rfl ?_;clear S;intro a S
 obtain ⟨j3, hj3, h⟩ := joinE h
 refine f_cutm 4 (fun a w' => ∃ c3, j3 c3 = some r ∧ Keep [] w3 w' ∧ Sx w [] nov [] [(25, bV c3)] 26 a w') ?_ ?_
 ·rcases Bool.eq_false_or_eq_true c2 with hb4 | hb4
  ·replace h := iteT h hb4
   refine l_want S rfl rfl rfl hb4 (lv S (Rm (S.tm rfl)) rfl ?_);clear S;intro a S
   refine l_want S rfl rfl rfl hb4 ?_
   obtain ⟨r1, hr1, h⟩ := bindE h
   refine l_enter S (fun _ => run_call (vs := [sV Ad, sV k_abcdefghijkl_h0e2e2c]) ⟨(S.tm rfl), rfl, trivial⟩ Tryz.call86) (strings_Trim_ok _ Ad k_abcdefghijkl_h0e2e2c _ hr1) rfl ?_;clear S;intro v1 a w5 hv1 hk4 hn1 S
   subst hv1
   refine l_want S rfl rfl rfl hb4 (lv S (rn_seql (S.tm rfl) rfl) rfl ?_);clear S;intro a S
   refine lv S (rn_and_t hb4 (S.tm rfl) (S.tm rfl)) rfl ?_;clear S;intro a S
   refine Ld (Tn ?_)
   exact ⟨_, h, hk4, S.nf [] rfl ⟨rfl, trivial⟩⟩
  ·replace h := iteF h hb4
   iterate 3 (refine l_skip S rfl rfl rfl (neq_f hb4) rfl ?_ rfl;clear S;intro a S)
   refine lv S (rn_and_f true hb4 (S.tm rfl) rfl) rfl ?_;clear S;intro a S
   refine Ld (Tn ?_)
   exact ⟨_, h, Keep.refl _ _, S.nf [] rfl ⟨rfl, trivial⟩⟩
 clear S h;rintro a w4 ⟨c3, h, hk5, S⟩;rw [hj3] at h;clear hj3 j3
 refine lv S (Ra (S.tm rfl)) rfl ?_;clear S;intro a S
 refine Ld (Tn (wp_ret ?_))
 obtain rfl := Option.some.inj h
 exact f_ret S Tryz.results74 rfl rfl
theorem words_Within_ok (w : World) (Be : Int) (Bq : Int) (Bl : Int) (r : Bool) (h : words_Within Be Bq Bl = r) :
    Calls Tryz.prog 75 [iV Be, iV Bq, iV Bl].toArray w (Ret w [] fun _ v _ => v = bV r) := by
 refine f_enter [] [] Tryz.func75 rfl Tryz.ntmps75 rfl (by simp) (by simp [fps]) (by simp [fps]) fun a S => ?_
 unfold words_Within at h
 replace S := S.nk [] [(0, iV Be), (1, iV Bq), (2, iV Bl)] [] rfl (subR rfl)
 refine Fs (Fg (lv S (Ra rfl) rfl ?_));clear S;intro a S
 refine Ld (Tn (Fs (Fg (lv S (Rm (S.tm rfl)) rfl ?_))));clear S;intro a S
 refine lv S (Rm (S.tm rfl)) rfl ?_;clear S;intro a S
 refine lv S (rn_geq (S.tm rfl) (S.tm rfl)) rfl ?_;clear S;intro a S
 refine lv S (Rm (S.tm rfl)) rfl ?_;clear S;intro a S
 refine f_cutm 4 (fun a w' => Keep [] w w' ∧ Sx w [] nov [] [(14, bV ((decide (Bq ≤ Be)) && (decide (Be ≤ Bl))))] 15 a w') ?_ ?_
 ·rcases Bool.eq_false_or_eq_true (decide (Bq ≤ Be)) with hb1 | hb1
  ·refine l_want S rfl rfl rfl hb1 (lv S (Rm (S.tm rfl)) rfl ?_);clear S;intro a S
   refine l_want S rfl rfl rfl hb1 (lv S (Rm (S.tm rfl)) rfl ?_);clear S;intro a S
   refine l_want S rfl rfl rfl hb1 (lv S (rn_leq (S.tm rfl) (S.tm rfl)) rfl ?_);clear S;intro a S
   refine lv S (rn_and_t hb1 (S.tm rfl) (S.tm rfl)) rfl ?_;clear S;intro a S
   refine Ld (Tn ?_)
   exact ⟨Keep.refl _ _, S.nf [] rfl ⟨rfl, trivial⟩⟩
  ·iterate 3 (refine l_skip S rfl rfl rfl (neq_f hb1) rfl ?_ rfl;clear S;intro a S)
   refine lv S (rn_and_f (decide (Be ≤ Bl)) hb1 (S.tm rfl) rfl) rfl ?_;clear S;intro a S
   refine Ld (Tn ?_)
   exact ⟨Keep.refl _ _, S.nf [] rfl ⟨rfl, trivial⟩⟩
 clear S;rintro a w1 ⟨hk1, S⟩
 refine lv S (Ra (S.tm rfl)) rfl ?_;clear S;intro a S
 refine Ld (Tn (wp_ret ?_))
 subst h
 exact f_ret S Tryz.results75 rfl rfl
theorem words_IsMoment_ok (w : World) (Be : Int) (r : Bool) (h : words_IsMoment Be = r) :
    Calls Tryz.prog 76 [iV Be].toArray w (Ret w [] fun _ v _ => v = bV r) := by
 refine f_enter [] [] Tryz.func76 rfl Tryz.ntmps76 rfl (by simp) (by simp [fps]) (by simp [fps]) fun a S => ?_
 unfold words_IsMoment at h
 replace S := S.nk [] [(0, iV Be)] [] rfl ⟨rfl, trivial⟩
 refine Fs (Fg (lv S (Ra rfl) rfl ?_));clear S;intro a S
 refine Ld (Tn (Fs (Fg (lv S (Rm (S.tm rfl)) rfl ?_))));clear S;intro a S
 refine lv S (rn_geq (S.tm rfl) rfl) rfl ?_;clear S;intro a S
 refine lv S (Rm (S.tm rfl)) rfl ?_;clear S;intro a S
 refine f_cutm 3 (fun a w' => Keep [] w w' ∧ Sx w [] nov [] [(8, bV ((decide (0 ≤ Be)) && (decide (Be < 345686400000))))] 9 a w') ?_ ?_
 ·rcases Bool.eq_false_or_eq_true (decide (0 ≤ Be)) with hb1 | hb1
  ·refine l_want S rfl rfl rfl hb1 (lv S (Rm (S.tm rfl)) rfl ?_);clear S;intro a S
   refine l_want S rfl rfl rfl hb1 (lv S (rn_lss (S.tm rfl) rfl) rfl ?_);clear S;intro a S
   refine lv S (rn_and_t hb1 (S.tm rfl) (S.tm rfl)) rfl ?_;clear S;intro a S
   refine Ld (Tn ?_)
   exact ⟨Keep.refl _ _, S.nf [] rfl ⟨rfl, trivial⟩⟩
  ·refine l_skip S rfl rfl rfl (neq_f hb1) rfl ?_ rfl;clear S;intro a S
   refine l_skip S rfl rfl rfl (neq_f hb1) rfl ?_ rfl;clear S;intro a S
   refine lv S (rn_and_f (decide (Be < 345686400000)) hb1 (S.tm rfl) rfl) rfl ?_;clear S;intro a S
   refine Ld (Tn ?_)
   exact ⟨Keep.refl _ _, S.nf [] rfl ⟨rfl, trivial⟩⟩
 clear S;rintro a w1 ⟨hk1, S⟩
 refine lv S (Ra (S.tm rfl)) rfl ?_;clear S;intro a S
 refine Ld (Tn (wp_ret ?_))
 subst h
 exact f_ret S Tryz.results76 rfl rfl
end Go.Proofs.YtpfommakhgkmeaaGreatDoor
