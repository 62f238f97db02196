/- Each Go function computes its plain twin, by program. -/
import Derived.Test.YtkpjakcepffimaaGreatDoorTab
import Derived.Test.YtkpjakcepffimaaGreatDoorLay
import Derived.Test.YtkpjakcepffimaaGreatDoorText
namespace Go.Proofs.YtkpjakcepffimaaGreatDoor
open Go
theorem tumbmake_Below_ok (w : World) (Bi : Int) (Al : Int) (r : Int) (h : tumbmake_Below Bi Al = some r) :
    Calls Tryz.prog 45 [iV Bi, iV Al].toArray w (Ret w [] fun _ v _ => v = iV r) := by
 refine f_enter [] [] Tryz.func45 rfl Tryz.ntmps45 rfl (by simp) (by simp [fps]) (by simp [fps]) fun a S => ?_
 unfold tumbmake_Below at h
 replace S := S.nk [] [(0, iV Bi), (1, iV Al)] [] rfl (subR rfl)
 refine Fs (Fg (lv S (Ra rfl) rfl ?_));clear S;intro a S
 refine Ld (Tn (Fs (Fs (Fg (lv S (Rm (S.tm rfl)) rfl ?_)))));clear S;intro a S
 refine lv S (rn_lss (S.tm rfl) rfl) rfl ?_;clear S;intro a S
 refine Ld (Tn (f_cond (S.tm rfl) (fun hb1 => ?_) (fun hb1 => ?_)))
 ·replace h := iteT h hb1
  refine Fs (Fg (lv S (Ra rfl) rfl ?_));clear S;intro a S
  refine Ld (Tn (wp_ret (then_r ?_)))
  obtain rfl := Option.some.inj h
  exact f_ret S Tryz.results45 rfl rfl
 ·replace h := iteF h hb1
  refine wp_skip (Tn (Fs (Fg (lv S (Rm (S.tm rfl)) rfl ?_))));clear S;intro a S
  refine lv S (Rm (S.tm rfl)) rfl ?_;clear S;intro a S
  obtain ⟨hc1, h⟩ := chkE h
  refine lv S (rn_rem (S.tm rfl) (S.tm rfl) (ne0_of hc1)) rfl ?_;clear S;intro a S
  refine lv S (Ra (S.tm rfl)) rfl ?_;clear S;intro a S
  refine Ld (Tn (Fs (Fs (Fg (lv S (Rm (S.tm rfl)) rfl ?_)))));clear S;intro a S
  refine lv S (rn_lss (S.tm rfl) rfl) rfl ?_;clear S;intro a S
  refine Ld (Tn ?_)
  obtain ⟨j1, hj1, h⟩ := joinE h
  refine f_join (fun a w' => ∃ x1 : Int, j1 x1 = some r ∧ Sx w [] nov [] [(0, iV x1)] 16 a w') ?_ ?_
  ·refine f_cond (S.tm rfl) (fun hb2 => ?_) (fun hb2 => ?_)
   ·replace h := iteT h hb2
    refine Fg (lv S (Rm (S.tm rfl)) rfl ?_);clear S;intro a S
    refine lv S (Rm (S.tm rfl)) rfl ?_;clear S;intro a S
    refine lv S (rn_add (S.tm rfl) (S.tm rfl)) rfl ?_;clear S;intro a S
    refine lv S (Ra (S.tm rfl)) rfl ?_;clear S;intro a S
    refine Ld (Tn ?_)
    exact ⟨W ((Int.tmod Bi Al) + Al), h, S.nf [] rfl ⟨rfl, trivial⟩⟩
   ·replace h := iteF h hb2
    refine wp_skip (Tn ?_)
    exact ⟨Int.tmod Bi Al, h, S.nf [] rfl ⟨rfl, trivial⟩⟩
  clear S h;rintro a w1 ⟨x1, h, S⟩;rw [hj1] at h;clear hj1 j1
  refine Tn (Fs (Fg (lv S (Rm (S.tm rfl)) rfl ?_)));clear S;intro a S
  refine lv S (Ra (S.tm rfl)) rfl ?_;clear S;intro a S
  refine Ld (Tn (wp_ret ?_))
  obtain rfl := Option.some.inj h
  exact f_ret S Tryz.results45 rfl rfl
set_option maxRecDepth 20000 in
theorem Stream_Next_ok (w : World) (O : Nat) (U : Value) (Af : List Int) (Ah : Slc (view w [O]) 1 U (Af.map eInt)) (Z : Int) (Ar : (LEnt.blk O [U, iV Z] 25).holds w) (Al : Int) (r : Int × Int) (h : Stream_Next Af Z Al = some r) :
    Calls Tryz.prog 15 [.pointer (some ⟨O, 0, none⟩), iV Al].toArray w (Ret w [O] fun _ v w' => (LEnt.blk O [U, iV r.2] 25).holds w' ∧ v = iV r.1) := by
 refine f_enter [O] [.blk O [U, iV Z] 25] Tryz.func15 rfl Tryz.ntmps15 rfl (fun e he => by simp only [List.mem_singleton] at he;subst he;exact Ar) (by simp [fps, LEnt.fp]) (by simp [fps, LEnt.fp]) fun a S => ?_
 unfold Stream_Next at h
 replace S := S.nk [.blk O [U, iV Z] 25] [(0, .pointer (some ⟨O, 0, none⟩)), (1, iV Al)] [true] rfl (subR rfl)
 refine Fs (Fg (lv S (Ra rfl) rfl ?_));clear S;intro a S
 refine Ld (Tn (Fs (Fg (lv S (Rm (S.tm rfl)) rfl ?_))));clear S;intro a S
 refine lv S (rn_nilCheck (S.tm rfl)) rfl ?_;clear S;intro a S
 refine lv S (rn_fld fa_25_1 (S.tm rfl)) rfl ?_;clear S;intro a S
 refine lv S (rn_load Tryz.isAgg3 (S.tm rfl) (S.cell (i := 0) rfl rfl)) rfl ?_;clear S;intro a S
 refine lv S (rn_add (S.tm rfl) rfl) rfl ?_;clear S;intro a S
 refine lv S (rn_nilCheck (S.tm rfl)) rfl ?_;clear S;intro a S
 refine lv S (rn_fld fa_25_1 (S.tm rfl)) rfl ?_;clear S;intro a S
 refine l_store S (S.tm rfl) (S.tm rfl) (i := 0) (off := 1) rfl Tryz.sizeOf3 (vs := [iV (W (Z + 1))]) rfl rfl rfl rfl ?_;clear S;intro w1 hk1 S
 refine Ld (Tn (Fs (Fs (Fg (lv S (Rm (S.tm rfl)) rfl ?_)))));clear S;intro a S
 refine lv S (rn_nilCheck (S.tm rfl)) rfl ?_;clear S;intro a S
 refine lv S (rn_fld fa_25_0 (S.tm rfl)) rfl ?_;clear S;intro a S
 refine lv S (rn_load Tryz.isAgg22 (S.tm rfl) (S.cell (i := 0) rfl rfl)) rfl ?_;clear S;intro a S
 refine lv S (rn_lenT sl_22 (S.tm rfl) (slc_len Ah)) rfl ?_;clear S;intro a S
 refine lv S (rn_eql (S.tm rfl) rfl) rfl ?_;clear S;intro a S
 refine Ld ?_
 replace S := S.nk [.blk O [U, iV (W (Z + 1))] 25] [(0, .pointer (some ⟨O, 0, none⟩)), (1, iV Al), (19, bV (decide ((Af.length : Int) = 0)))] [true] rfl (subR rfl)
 refine Tn (f_cond (S.tm rfl) (fun hb1 => ?_) (fun hb1 => ?_))
 ·replace h := iteT h hb1
  refine Fs (Fg (lv S (Rm (S.tm rfl)) rfl ?_));clear S;intro a S
  refine lv S (rn_nilCheck (S.tm rfl)) rfl ?_;clear S;intro a S
  refine lv S (rn_fld fa_25_1 (S.tm rfl)) rfl ?_;clear S;intro a S
  refine lv S (rn_load Tryz.isAgg3 (S.tm rfl) (S.cell (i := 0) rfl rfl)) rfl ?_;clear S;intro a S
  refine lv S (rn_mul (S.tm rfl) rfl) rfl ?_;clear S;intro a S
  refine lv S (Rm (S.tm rfl)) rfl ?_;clear S;intro a S
  obtain ⟨r1, hr1, h⟩ := bindE h
  refine l_enter S (fun _ => run_call (vs := [iV (W ((W (Z + 1)) * 7919)), iV Al]) ⟨(S.tm rfl), (S.tm rfl), trivial⟩ Tryz.call45) (tumbmake_Below_ok _ (W ((W (Z + 1)) * 7919)) Al _ hr1) rfl ?_;clear S;intro v1 a w2 hv1 hk2 hn1 S
  subst hv1
  refine lv S (Ra (S.tm rfl)) rfl ?_;clear S;intro a S
  refine Ld (Tn (wp_ret (then_r ?_)))
  obtain rfl := Option.some.inj h
  exact f_ret S Tryz.results15 rfl ⟨(S.holds _ (List.mem_of_getElem? (i := 0) rfl)), rfl⟩
 ·replace h := iteF h hb1
  refine wp_skip (Tn (Fs (d_region [] ([]) Tryz.mixed S rfl (by kernel_rfl) ?_)));clear S;intro w3 hk3 hsel S
  refine d_rest [0, 1, 2, 3, 4, 5, 6, 7, 8, 9, 10, 11] hsel (by kernel_rfl) rfl ?_
  clear hsel
  refine s_lv S rfl (Rm (S.tm rfl)) rfl ?_;clear S;intro a S
  refine s_lv S rfl (rn_nilCheck (S.tm rfl)) rfl ?_;clear S;intro a S
  refine s_lv S rfl (rn_fld fa_25_1 (S.tm rfl)) rfl ?_;clear S;intro a S
  refine s_lv S rfl (rn_load Tryz.isAgg3 (S.tm rfl) (S.cell (i := 0) rfl rfl)) rfl ?_;clear S;intro a S
  refine s_lv S rfl (rn_sub (S.tm rfl) rfl) rfl ?_;clear S;intro a S
  refine s_lv S rfl (Rm (S.tm rfl)) rfl ?_;clear S;intro a S
  refine s_lv S rfl (rn_nilCheck (S.tm rfl)) rfl ?_;clear S;intro a S
  refine s_lv S rfl (rn_fld fa_25_0 (S.tm rfl)) rfl ?_;clear S;intro a S
  refine s_lv S rfl (rn_load Tryz.isAgg22 (S.tm rfl) (S.cell (i := 0) rfl rfl)) rfl ?_;clear S;intro a S
  refine s_lv S rfl (rn_lenT sl_22 (S.tm rfl) (slc_len Ah)) rfl ?_;clear S;intro a S
  obtain ⟨hc1, h⟩ := chkE h
  refine s_lv S rfl (rn_rem (S.tm rfl) (S.tm rfl) (ne0_of hc1)) rfl ?_;clear S;intro a S
  refine s_lv S rfl (Ra (S.tm rfl)) rfl ?_;clear S;intro a S
  refine s_done ?_
  replace S := S.nk [.blk O [U, iV (W (Z + 1))] 25] [(0, .pointer (some ⟨O, 0, none⟩)), (1, iV Al), (5, iV (Int.tmod (W ((W (Z + 1)) - 1)) (Af.length : Int)))] [true] rfl (subR rfl)
  refine Tn (Fs (d_region [] ([]) Tryz.mixed S rfl (by kernel_rfl) ?_));clear S;intro w4 hk4 hsel S
  refine d_rest [0, 1, 2, 3, 4, 5, 6, 7, 8, 9, 10, 11] hsel (by kernel_rfl) rfl ?_
  clear hsel
  refine s_lv S rfl (Rm (S.tm rfl)) rfl ?_;clear S;intro a S
  refine s_lv S rfl (rn_nilCheck (S.tm rfl)) rfl ?_;clear S;intro a S
  refine s_lv S rfl (rn_fld fa_25_1 (S.tm rfl)) rfl ?_;clear S;intro a S
  refine s_lv S rfl (rn_load Tryz.isAgg3 (S.tm rfl) (S.cell (i := 0) rfl rfl)) rfl ?_;clear S;intro a S
  refine s_lv S rfl (rn_sub (S.tm rfl) rfl) rfl ?_;clear S;intro a S
  refine s_lv S rfl (Rm (S.tm rfl)) rfl ?_;clear S;intro a S
  refine s_lv S rfl (rn_nilCheck (S.tm rfl)) rfl ?_;clear S;intro a S
  refine s_lv S rfl (rn_fld fa_25_0 (S.tm rfl)) rfl ?_;clear S;intro a S
  refine s_lv S rfl (rn_load Tryz.isAgg22 (S.tm rfl) (S.cell (i := 0) rfl rfl)) rfl ?_;clear S;intro a S
  refine s_lv S rfl (rn_lenT sl_22 (S.tm rfl) (slc_len Ah)) rfl ?_;clear S;intro a S
  obtain ⟨hc2, h⟩ := chkE h
  refine s_lv S rfl (rn_quo (S.tm rfl) (S.tm rfl) (ne0_of hc2)) rfl ?_;clear S;intro a S
  refine s_lv S rfl (Ra (S.tm rfl)) rfl ?_;clear S;intro a S
  refine s_done ?_
  replace S := S.nk [.blk O [U, iV (W (Z + 1))] 25] [(0, .pointer (some ⟨O, 0, none⟩)), (1, iV Al), (5, iV (Int.tmod (W ((W (Z + 1)) - 1)) (Af.length : Int))), (6, iV (W (Int.tdiv (W ((W (Z + 1)) - 1)) (Af.length : Int))))] [true] rfl (subR rfl)
  refine Tn (Fs (Fg (lv S (Rm (S.tm rfl)) rfl ?_)));clear S;intro a S
  refine lv S (rn_nilCheck (S.tm rfl)) rfl ?_;clear S;intro a S
  refine lv S (rn_fld fa_25_0 (S.tm rfl)) rfl ?_;clear S;intro a S
  refine lv S (rn_load Tryz.isAgg22 (S.tm rfl) (S.cell (i := 0) rfl rfl)) rfl ?_;clear S;intro a S
  refine lv S (Rm (S.tm rfl)) rfl ?_;clear S;intro a S
  obtain ⟨hc3, h⟩ := chkE h
  obtain ⟨b1, o1, hm1, hr2⟩ := rn_indexT (a := a) (x := .tmp 52) (y := .tmp 53) (ty := 0) sl_22 Ah (inB_get hc3).1 (inB_get hc3).2 (S.tm rfl) (S.tm rfl)
  refine lv S (hr2 _) rfl ?_;clear S;intro a S
  clear hr2
  refine lv S (rn_ld Tryz.isAgg3 (off := o1) (o := 0) (S.tm rfl) (hm1.at S.emb0) rfl) rfl ?_;clear S;intro a S
  obtain ⟨r2, hr3, h⟩ := bindE h
  refine l_enter S (fun _ => run_call (vs := [iV (nth Af (Int.tmod (W ((W (Z + 1)) - 1)) (Af.length : Int))), iV 1073741824]) ⟨(S.tm rfl), rfl, trivial⟩ Tryz.call45) (tumbmake_Below_ok _ (nth Af (Int.tmod (W ((W (Z + 1)) - 1)) (Af.length : Int))) 1073741824 _ hr3) rfl ?_;clear S;intro v2 a w5 hv2 hk5 hn2 S
  subst hv2
  refine lv S (Rm (S.tm rfl)) rfl ?_;clear S;intro a S
  refine lv S (Rm (S.tm rfl)) rfl ?_;clear S;intro a S
  refine lv S (rn_add rfl (S.tm rfl)) rfl ?_;clear S;intro a S
  refine lv S (rn_mul (S.tm rfl) (S.tm rfl)) rfl ?_;clear S;intro a S
  refine lv S (rn_add (S.tm rfl) (S.tm rfl)) rfl ?_;clear S;intro a S
  refine lv S (Rm (S.tm rfl)) rfl ?_;clear S;intro a S
  obtain ⟨r3, hr4, h⟩ := bindE h
  refine l_enter S (fun _ => run_call (vs := [iV (W (r2 + (W ((W (Int.tdiv (W ((W (Z + 1)) - 1)) (Af.length : Int))) * (W (7919 + (Int.tmod (W ((W (Z + 1)) - 1)) (Af.length : Int)))))))), iV Al]) ⟨(S.tm rfl), (S.tm rfl), trivial⟩ Tryz.call45) (tumbmake_Below_ok _ (W (r2 + (W ((W (Int.tdiv (W ((W (Z + 1)) - 1)) (Af.length : Int))) * (W (7919 + (Int.tmod (W ((W (Z + 1)) - 1)) (Af.length : Int)))))))) Al _ hr4) rfl ?_;clear S;intro v3 a w6 hv3 hk6 hn3 S
  subst hv3
  refine lv S (Ra (S.tm rfl)) rfl ?_;clear S;intro a S
  refine Ld ?_
  replace S := S.nk [.blk O [U, iV (W (Z + 1))] 25] [(4, iV r3)] [true] rfl ⟨rfl, trivial⟩
  refine Tn (wp_ret ?_)
  obtain rfl := Option.some.inj h
  exact f_ret S Tryz.results15 rfl ⟨(S.holds _ (List.mem_of_getElem? (i := 0) rfl)), rfl⟩
theorem Stream_Flip_ok (w : World) (O : Nat) (U : Value) (Af : List Int) (Ah : Slc (view w [O]) 1 U (Af.map eInt)) (Z : Int) (Ar : (LEnt.blk O [U, iV Z] 25).holds w) (Al : Int) (r : Bool × Int) (h : Stream_Flip Af Z Al = some r) :
    Calls Tryz.prog 14 [.pointer (some ⟨O, 0, none⟩), iV Al].toArray w (Ret w [O] fun _ v w' => (LEnt.blk O [U, iV r.2] 25).holds w' ∧ v = bV r.1) := by
 refine f_enter [O] [.blk O [U, iV Z] 25] Tryz.func14 rfl Tryz.ntmps14 rfl (fun e he => by simp only [List.mem_singleton] at he;subst he;exact Ar) (by simp [fps, LEnt.fp]) (by simp [fps, LEnt.fp]) fun a S => ?_
 unfold Stream_Flip at h
 replace S := S.nk [.blk O [U, iV Z] 25] [(0, .pointer (some ⟨O, 0, none⟩)), (1, iV Al)] [true] rfl (subR rfl)
 refine Fs (Fg (lv S (Ra rfl) rfl ?_));clear S;intro a S
 refine Ld (Tn (Fs (Fg (lv S (Rm (S.tm rfl)) rfl ?_))));clear S;intro a S
 refine lv S (Rm (S.tm rfl)) rfl ?_;clear S;intro a S
 obtain ⟨r1, hr1, h⟩ := bindE h
 refine l_enter1 0 S (b := O) rfl rfl (fun _ => .blk O [U, iV r1.2] 25) (fun _ => run_call (vs := [.pointer (some ⟨O, 0, none⟩), iV Al]) ⟨(S.tm rfl), (S.tm rfl), trivial⟩ Tryz.call15) (Stream_Next_ok _ O U Af (Ah.mono (S.le_arg (fp_sub (i := 0) (e := .blk O [U, iV Z] 25) rfl))) Z (S.holds _ (List.mem_of_getElem? (i := 0) rfl)) Al _ hr1) rfl (fun _ _ _ h => ⟨h.1, fun _ hc => by cases hc;rfl⟩) ?_;clear S;intro v1 a w1 hv1 hk1 hn1 S
 replace hv1 := hv1.2
 subst hv1
 refine lv S (rn_eql (S.tm rfl) rfl) rfl ?_;clear S;intro a S
 refine lv S (Ra (S.tm rfl)) rfl ?_;clear S;intro a S
 refine Ld (Tn (wp_ret ?_))
 obtain rfl := Option.some.inj h
 exact f_ret S Tryz.results14 rfl ⟨(S.holds _ (List.mem_of_getElem? (i := 0) rfl)), rfl⟩
theorem Stream_Pick_ok (w : World) (O : Nat) (U : Value) (Af : List Int) (Ah : Slc (view w [O]) 1 U (Af.map eInt)) (Z : Int) (Ar : (LEnt.blk O [U, iV Z] 25).holds w) (Ae : Value) (Aj : List Int) (Ao : Slc (view w [O]) 1 Ae (Aj.map eInt)) (r : Int × Int) (h : Stream_Pick Af Z Aj = some r) :
    Calls Tryz.prog 17 [.pointer (some ⟨O, 0, none⟩), Ae].toArray w (Ret w [O] fun _ v w' => (LEnt.blk O [U, iV r.2] 25).holds w' ∧ v = iV r.1) := by
 refine f_enter [O] [.blk O [U, iV Z] 25] Tryz.func17 rfl Tryz.ntmps17 rfl (fun e he => by simp only [List.mem_singleton] at he;subst he;exact Ar) (by simp [fps, LEnt.fp]) (by simp [fps, LEnt.fp]) fun a S => ?_
 unfold Stream_Pick at h
 replace S := S.nk [.blk O [U, iV Z] 25] [(0, .pointer (some ⟨O, 0, none⟩)), (1, Ae)] [true] rfl (subR rfl)
 refine Fs (Fg (lv S (Ra rfl) rfl ?_));clear S;intro a S
 refine Ld (Tn (Fs (Fg (lv S (Rm (S.tm rfl)) rfl ?_))));clear S;intro a S
 refine lv S (Rm (S.tm rfl)) rfl ?_;clear S;intro a S
 refine lv S (Rm (S.tm rfl)) rfl ?_;clear S;intro a S
 refine lv S (rn_lenT sl_22 (S.tm rfl) (slc_len Ao)) rfl ?_;clear S;intro a S
 obtain ⟨r1, hr1, h⟩ := bindE h
 refine l_enter1 0 S (b := O) rfl rfl (fun _ => .blk O [U, iV r1.2] 25) (fun _ => run_call (vs := [.pointer (some ⟨O, 0, none⟩), iV (Aj.length : Int)]) ⟨(S.tm rfl), (S.tm rfl), trivial⟩ Tryz.call15) (Stream_Next_ok _ O U Af (Ah.mono (S.le_arg (fp_sub (i := 0) (e := .blk O [U, iV Z] 25) rfl))) Z (S.holds _ (List.mem_of_getElem? (i := 0) rfl)) (Aj.length : Int) _ hr1) rfl (fun _ _ _ h => ⟨h.1, fun _ hc => by cases hc;rfl⟩) ?_;clear S;intro v1 a w1 hv1 hk1 hn1 S
 replace hv1 := hv1.2
 subst hv1
 obtain ⟨hc1, h⟩ := chkE h
 obtain ⟨b1, o1, hm1, hr2⟩ := rn_indexT (a := a) (x := .tmp 5) (y := .tmp 9) (ty := 0) sl_22 Ao (inB_get hc1).1 (inB_get hc1).2 (S.tm rfl) (S.tm rfl)
 refine lv S (hr2 _) rfl ?_;clear S;intro a S
 clear hr2
 refine lv S (rn_ld Tryz.isAgg3 (off := o1) (o := 0) (S.tm rfl) (hm1.at S.emb0) rfl) rfl ?_;clear S;intro a S
 refine lv S (Ra (S.tm rfl)) rfl ?_;clear S;intro a S
 refine Ld (Tn (wp_ret ?_))
 obtain rfl := Option.some.inj h
 exact f_ret S Tryz.results17 rfl ⟨(S.holds _ (List.mem_of_getElem? (i := 0) rfl)), rfl⟩
theorem Stream_RightSwimmers_ok (w : World) (O : Nat) (U : Value) (Af : List Int) (Ah : Slc (view w [O]) 1 U (Af.map eInt)) (Z : Int) (Ar : (LEnt.blk O [U, iV Z] 25).holds w) (r : (List GSwimmer) × Int) (h : Stream_RightSwimmers Af Z = some r) :
    Calls Tryz.prog 13 [.pointer (some ⟨O, 0, none⟩)].toArray w (Ret w [O] fun τ v w' => (LEnt.blk O [U, iV r.2] 25).holds w' ∧ OwnV τ 38 3 v r.1.length (r.1.flatMap GSwimmer.enc)) := by
 refine f_enter [O] [.blk O [U, iV Z] 25] Tryz.func13 rfl Tryz.ntmps13 rfl (fun e he => by simp only [List.mem_singleton] at he;subst he;exact Ar) (by simp [fps, LEnt.fp]) (by simp [fps, LEnt.fp]) fun a S => ?_
 unfold Stream_RightSwimmers at h
 replace S := S.nk [.blk O [U, iV Z] 25] [(0, .pointer (some ⟨O, 0, none⟩))] [true] rfl ⟨rfl, trivial⟩
 refine Fs (Fg (lv S (Ra rfl) rfl ?_));clear S;intro a S
 refine Ld (Tn (Fs (Fg (lv S (Ra rfl) rfl ?_))));clear S;intro a S
 replace S := S.nil 38 3
 refine Ld (Tn (Fs (Fs (Fg (l_buildSlice S Tryz.underlying65 Tryz.sizeOf9 Tryz.zeroValue9 rfl rfl (pv := [(0, sV k_ann), (1, sV k_bea), (2, sV k_cid), (3, sV k_dan), (4, sV k_eve), (5, sV k_fox)]) ⟨rfl, rfl, rfl, rfl, rfl, rfl, rfl, rfl, rfl, rfl, rfl, rfl, trivial⟩ (cs := [sV k_ann, sV k_bea, sV k_cid, sV k_dan, sV k_eve, sV k_fox]) (by kernel_rfl) rfl ?_)))));clear S;intro a w1 b1 hz1 hk1 S
 refine lv S (rn_lenT sl_65 (S.tm rfl) ⟨_, _, rfl⟩) rfl ?_;clear S;intro a S
 refine lv S (Rm rfl) rfl ?_;clear S;intro a S
 refine Ld (Tn ?_)
 replace S := S.nk [.blk b1 [sV k_ann, sV k_bea, sV k_cid, sV k_dan, sV k_eve, sV k_fox] 9, .own (.slice none 0 0) 38 3 ([] : List GSwimmer).length (([] : List GSwimmer).flatMap GSwimmer.enc), .blk O [U, iV Z] 25] [(0, .pointer (some ⟨O, 0, none⟩)), (3, (.slice none 0 0)), (6, .slice (some ⟨b1, 0, none⟩) 6 6), (7, iV (([k_ann, k_bea, k_cid, k_dan, k_eve, k_fox] : List ByteArray).length : Int)), (8, iV 0)] [true, true, true] rfl (subR rfl)
 replace S := S.litOwn (i := 0) (xs := [k_ann, k_bea, k_cid, k_dan, k_eve, k_fox]) rfl enc_str rfl rfl rfl
 replace S := S.nk [.own (.slice (some ⟨b1, 0, none⟩) 6 6) 9 1 ([k_ann, k_bea, k_cid, k_dan, k_eve, k_fox] : List ByteArray).length (([k_ann, k_bea, k_cid, k_dan, k_eve, k_fox] : List ByteArray).flatMap eStr), .own (.slice none 0 0) 38 3 ([] : List GSwimmer).length (([] : List GSwimmer).flatMap GSwimmer.enc), .blk O [U, iV Z] 25] [(0, .pointer (some ⟨O, 0, none⟩)), (3, (.slice none 0 0)), (6, (.slice (some ⟨b1, 0, none⟩) 6 6)), (7, iV (([k_ann, k_bea, k_cid, k_dan, k_eve, k_fox] : List ByteArray).length : Int)), (8, iV 0)] [] rfl (subR rfl)
 obtain ⟨φ1, hl1, hs1, S⟩ := S.freezeT (xs := ([k_ann, k_bea, k_cid, k_dan, k_eve, k_fox] : List ByteArray)) (enc := eStr) (i := 0) rfl (fun c hc hh => not_fps S (i := 2) rfl rfl (j := 0) rfl rfl (by simp at hc;subst hc;exact hh))
 replace S := S.nk [.own (.slice none 0 0) 38 3 ([] : List GSwimmer).length (([] : List GSwimmer).flatMap GSwimmer.enc), .blk O [U, iV Z] 25] [(0, .pointer (some ⟨O, 0, none⟩)), (3, (.slice none 0 0)), (6, (.slice (some ⟨b1, 0, none⟩) 6 6)), (7, iV (([k_ann, k_bea, k_cid, k_dan, k_eve, k_fox] : List ByteArray).length : Int)), (8, iV 0)] [] rfl (subR rfl)
 obtain ⟨j1, hj1, h⟩ := joinE h
 refine f_join (fun a w' => ∃ x1 : List GSwimmer, ∃ x2 : Int, ∃ v1 : Value, j1 x1 x2 = some r ∧ Sx w [O] φ1 [.own v1 38 3 x1.length (x1.flatMap GSwimmer.enc), .blk O [U, iV x2] 25] [(3, v1)] 27 a w') ?_ ?_
 ·refine wp_block (f_loop (fun (ys1 : List ByteArray) a w' => ∃ i1 : Nat, ∃ x1 : List GSwimmer, ∃ x2 : Int, ∃ v1 : Value, (∃ dn, ([k_ann, k_bea, k_cid, k_dan, k_eve, k_fox] : List ByteArray) = dn ++ ys1 ∧ dn.length = i1) ∧ Stream_RightSwimmers_l1 Af j1 ys1 i1 x1 x2 = some r ∧ Sx w [O] φ1 [.own v1 38 3 x1.length (x1.flatMap GSwimmer.enc), .blk O [U, iV x2] 25] [(0, .pointer (some ⟨O, 0, none⟩)), (3, v1), (6, (.slice (some ⟨b1, 0, none⟩) 6 6)), (7, iV (([k_ann, k_bea, k_cid, k_dan, k_eve, k_fox] : List ByteArray).length : Int)), (8, iV (i1 : Int))] 27 a w') List.length ([k_ann, k_bea, k_cid, k_dan, k_eve, k_fox] : List ByteArray) ⟨0, ([] : List GSwimmer), Z, (.slice none 0 0), ⟨[], rfl, rfl⟩, h, S.nf [true, true] rfl (subR rfl)⟩ ?_)
  clear S h;rintro ys1 a w2 ⟨i1, x1, x2, v1, ⟨dn, hd1, hi1⟩, h, S⟩
  cases ys1 with
  | nil =>
   rw [Stream_RightSwimmers_l1.eq_1] at h
   refine Fs (Fg (lv S (rn_lss (S.tm rfl) (S.tm rfl)) rfl ?_));clear S;intro a S
   refine Ld ?_
   replace S := S.nk [.own v1 38 3 x1.length (x1.flatMap GSwimmer.enc), .blk O [U, iV x2] 25] [(0, .pointer (some ⟨O, 0, none⟩)), (3, v1), (6, (.slice (some ⟨b1, 0, none⟩) 6 6)), (7, iV (([k_ann, k_bea, k_cid, k_dan, k_eve, k_fox] : List ByteArray).length : Int)), (8, iV (i1 : Int)), (9, bV (decide ((i1 : Int) < (([k_ann, k_bea, k_cid, k_dan, k_eve, k_fox] : List ByteArray).length : Int))))] [true, true] rfl (subR rfl)
   refine Tn (Fs (wp_cond_false ((S.tm rfl).trans (congrArg Value.bool (rng_nil hd1 hi1))) (wp_exit (then_x (then_x (x_same ?_))))))
   refine Tn ?_
   exact ⟨x1, x2, v1, h, S.nf [true, true] rfl ⟨rfl, trivial⟩⟩
  | cons y1 ys1 =>
   rw [Stream_RightSwimmers_l1.eq_2] at h
   refine Fs (Fg (lv S (rn_lss (S.tm rfl) (S.tm rfl)) rfl ?_));clear S;intro a S
   refine Ld ?_
   replace S := S.nk [.own v1 38 3 x1.length (x1.flatMap GSwimmer.enc), .blk O [U, iV x2] 25] [(0, .pointer (some ⟨O, 0, none⟩)), (3, v1), (6, (.slice (some ⟨b1, 0, none⟩) 6 6)), (7, iV (([k_ann, k_bea, k_cid, k_dan, k_eve, k_fox] : List ByteArray).length : Int)), (8, iV (i1 : Int)), (9, bV (decide ((i1 : Int) < (([k_ann, k_bea, k_cid, k_dan, k_eve, k_fox] : List ByteArray).length : Int))))] [true, true] rfl (subR rfl)
   refine Tn (Fs (wp_cond_true ((S.tm rfl).trans (congrArg Value.bool (rng_cons hd1 hi1))) (wp_skip (Tn (Fs ?_)))))
   obtain ⟨j2, hj2, h⟩ := joinE h
   refine f_join (fun a w' => ∃ x3 : List GSwimmer, ∃ x4 : Int, ∃ v2 : Value, j2 x3 x4 = some r ∧ Sx w [O] φ1 [.own v2 38 3 x3.length (x3.flatMap GSwimmer.enc), .blk O [U, iV x4] 25] [(0, .pointer (some ⟨O, 0, none⟩)), (3, v2), (6, (.slice (some ⟨b1, 0, none⟩) 6 6)), (7, iV (([k_ann, k_bea, k_cid, k_dan, k_eve, k_fox] : List ByteArray).length : Int)), (8, iV (i1 : Int))] 27 a w') ?_ ?_
   ·refine wp_block (Fs (Fg ?_))
    obtain ⟨b2, o1, hm1, hr1⟩ := rn_indexT (a := a) (x := .tmp 6) (y := .tmp 8) (ty := 0) sl_65 (ownV_slcT enc_str hs1) (get_mid hd1 hi1) rfl (S.tm rfl) (S.tm rfl)
    refine lv S (hr1 _) rfl ?_;clear S;intro a S
    clear hr1
    refine lv S (rn_ld Tryz.isAgg9 (off := o1) (o := 0) (S.tm rfl) (hm1.at S.emb) rfl) rfl ?_;clear S;intro a S
    refine lv S (Ra (S.tm rfl)) rfl ?_;clear S;intro a S
    refine Ld (Tn (Fs (Fs (Fg (lv S (Rm (S.tm rfl)) rfl ?_)))));clear S;intro a S
    obtain ⟨r1, hr2, h⟩ := bindE h
    refine l_enter1 1 S (b := O) rfl rfl (fun _ => .blk O [U, iV r1.2] 25) (fun _ => run_call (vs := [.pointer (some ⟨O, 0, none⟩), iV 8]) ⟨(S.tm rfl), rfl, trivial⟩ Tryz.call14) (Stream_Flip_ok _ O U Af (Ah.mono (S.le_arg (fp_sub (i := 1) (e := .blk O [U, iV x2] 25) rfl))) x2 (S.holds _ (List.mem_of_getElem? (i := 1) rfl)) 8 _ hr2) rfl (fun _ _ _ h => ⟨h.1, fun _ hc => by cases hc;rfl⟩) ?_;clear S;intro v3 a w5 hv1 hk2 hn1 S
    replace hv1 := hv1.2
    subst hv1
    refine Ld (Tn (f_cond (S.tm rfl) (fun hb1 => ?_) (fun hb1 => ?_)))
    ·replace h := iteT h hb1
     refine wp_exit (then_x (x_same (Tn ?_)))
     exact ⟨x1, r1.2, v1, h, S.nf [true, true] rfl (subR rfl)⟩
    ·replace h := iteF h hb1
     refine wp_skip (Tn (Fg (lv S (Rm (S.tm rfl)) rfl ?_)));clear S;intro a S
     refine lv S (Rm (S.tm rfl)) rfl ?_;clear S;intro a S
     refine lv S (Rm (S.tm rfl)) rfl ?_;clear S;intro a S
     refine l_buildSlice S Tryz.underlying22 Tryz.sizeOf3 Tryz.zeroValue3 rfl rfl (pv := [(0, iV 1), (1, iV 2)]) ⟨rfl, rfl, rfl, rfl, trivial⟩ (cs := [iV 1, iV 2]) (by kernel_rfl) rfl ?_;clear S;intro a w6 b3 hz2 hk3 S
     obtain ⟨r2, hr3, h⟩ := bindE h
     refine l_enter1 2 S (b := O) rfl rfl (fun _ => .blk O [U, iV r2.2] 25) (fun _ => run_call (vs := [.pointer (some ⟨O, 0, none⟩), .slice (some ⟨b3, 0, none⟩) 2 2]) ⟨(S.tm rfl), (S.tm rfl), trivial⟩ Tryz.call17) (Stream_Pick_ok _ O U Af (Ah.mono (S.le_arg (fp_sub (i := 2) (e := .blk O [U, iV r1.2] 25) rfl))) r1.2 (S.holds _ (List.mem_of_getElem? (i := 2) rfl)) (.slice (some ⟨b3, 0, none⟩) 2 2) [1, 2] (lit_slcT enc_int S (i := 0) rfl rfl rfl rfl ((ne_fp (i := 2) (j := 0) (e := .blk O [U, iV r1.2] 25) (e' := .blk b3 [iV 1, iV 2] 3) S rfl rfl rfl) _ rfl)) _ hr3) rfl (fun _ _ _ h => ⟨h.1, fun _ hc => by cases hc;rfl⟩) ?_;clear S;intro v4 a w7 hv2 hk4 hn2 S
     replace hv2 := hv2.2
     subst hv2
     refine lv S (Rm (S.tm rfl)) rfl ?_;clear S;intro a S
     refine l_buildSlice S Tryz.underlying22 Tryz.sizeOf3 Tryz.zeroValue3 rfl rfl (pv := [(0, iV 59), (1, iV 0), (2, iV (-1)), (3, iV (-307)), (4, iV (-3653)), (5, iV (-5000)), (6, iV 365), (7, iV 1520)]) ⟨rfl, rfl, rfl, rfl, rfl, rfl, rfl, rfl, rfl, rfl, rfl, rfl, rfl, rfl, rfl, rfl, trivial⟩ (cs := [iV 59, iV 0, iV (-1), iV (-307), iV (-3653), iV (-5000), iV 365, iV 1520]) (by kernel_rfl) rfl ?_;clear S;intro a w8 b4 hz3 hk5 S
     obtain ⟨r3, hr4, h⟩ := bindE h
     refine l_enter1 3 S (b := O) rfl rfl (fun _ => .blk O [U, iV r3.2] 25) (fun _ => run_call (vs := [.pointer (some ⟨O, 0, none⟩), .slice (some ⟨b4, 0, none⟩) 8 8]) ⟨(S.tm rfl), (S.tm rfl), trivial⟩ Tryz.call17) (Stream_Pick_ok _ O U Af (Ah.mono (S.le_arg (fp_sub (i := 3) (e := .blk O [U, iV r2.2] 25) rfl))) r2.2 (S.holds _ (List.mem_of_getElem? (i := 3) rfl)) (.slice (some ⟨b4, 0, none⟩) 8 8) [59, 0, (-1), (-307), (-3653), (-5000), 365, 1520] (lit_slcT enc_int S (i := 0) rfl rfl rfl rfl ((ne_fp (i := 3) (j := 0) (e := .blk O [U, iV r2.2] 25) (e' := .blk b4 [iV 59, iV 0, iV (-1), iV (-307), iV (-3653), iV (-5000), iV 365, iV 1520] 3) S rfl rfl rfl) _ rfl)) _ hr4) rfl (fun _ _ _ h => ⟨h.1, fun _ hc => by cases hc;rfl⟩) ?_;clear S;intro v5 a w9 hv3 hk6 hn3 S
     replace hv3 := hv3.2
     subst hv3
     refine lv S (rn_bld bt_38 (pv := [(0, sV y1), (1, iV r2.1), (2, iV r3.1)]) ⟨rfl, (S.tm rfl), rfl, (S.tm rfl), rfl, (S.tm rfl), trivial⟩ (cs := [sV y1, iV r2.1, iV r3.1]) (by kernel_rfl)) rfl ?_;clear S;intro a S
     refine l_buildSlice S Tryz.underlying26 Tryz.sizeOf38 Tryz.zeroValue38 rfl rfl (pv := [(0, .agg #[sV y1, iV r2.1, iV r3.1])]) ⟨rfl, (S.tm rfl), trivial⟩ (cs := [sV y1, iV r2.1, iV r3.1]) (by kernel_rfl) rfl ?_;clear S;intro a w10 b5 hz4 hk7 S
     obtain ⟨hc1, h⟩ := chkE h
     refine l_appendT sl_26 GSwimmer.enc_ok S (S.tm rfl) (i := 3) rfl (S.tm rfl) (j := 0) rfl (ys := [(GSwimmer.mk y1 r2.1 r3.1)]) rfl rfl rfl rfl (by have := room_lt hc1;omega) rfl ?_;clear S;intro v6 a w11 hk8 S
     refine lv S (Ra (S.tm rfl)) rfl ?_;clear S;intro a S
     refine Ld ?_
     replace S := S.nk [.own v6 38 3 (x1 ++ [(GSwimmer.mk y1 r2.1 r3.1)]).length ((x1 ++ [(GSwimmer.mk y1 r2.1 r3.1)]).flatMap GSwimmer.enc), .blk O [U, iV r3.2] 25] [(0, .pointer (some ⟨O, 0, none⟩)), (3, v6), (6, (.slice (some ⟨b1, 0, none⟩) 6 6)), (7, iV (([k_ann, k_bea, k_cid, k_dan, k_eve, k_fox] : List ByteArray).length : Int)), (8, iV (i1 : Int))] [false, false, false, true, true] rfl (subR rfl)
     refine blk_n (Tn ?_)
     exact ⟨(x1 ++ [(GSwimmer.mk y1 r2.1 r3.1)]), r3.2, v6, h, S.nf [true, true] rfl (subR rfl)⟩
   clear S h;rintro a w4 ⟨x3, x4, v2, h, S⟩;rw [hj2] at h;clear hj2 j2
   refine Tn (Fg (lv S (rn_add (S.tm rfl) rfl) rfl ?_));clear S;intro a S
   refine lv S (Rm (S.tm rfl)) rfl ?_;clear S;intro a S
   refine Ld (Tn ?_)
   exact ⟨ys1, ⟨i1 + 1, x3, x4, v2, ⟨_, (hd1).trans (List.append_cons _ _ _), by simp [hi1]⟩, h, S.nf [true, true] rfl ⟨rfl, rfl, rfl, rfl, (congrArg (fun z => some (Value.int .i64 z)) (rng_next hd1 hi1 (slc_max (ownV_slcT enc_str hs1)))), trivial⟩⟩, Nat.lt_succ_self _⟩
 clear S h;rintro a w3 ⟨x1, x2, v1, h, S⟩;rw [hj1] at h;clear hj1 j1
 refine Tn (Fs (Fg (lv S (Rm (S.tm rfl)) rfl ?_)));clear S;intro a S
 refine lv S (Ra (S.tm rfl)) rfl ?_;clear S;intro a S
 refine Ld (Tn (wp_ret ?_))
 obtain rfl := Option.some.inj h
 exact f_ret S Tryz.results13 rfl ⟨(S.holds _ (List.mem_of_getElem? (i := 1) rfl)), (own_retX S (i := 0) rfl (fun c hc hh => not_fps S (i := 1) rfl rfl (j := 0) rfl rfl (by simp at hc;subst hc;exact hh)))⟩
theorem Stream_Some_ok (w : World) (O : Nat) (U : Value) (Af : List Int) (Ah : Slc (view w [O]) 1 U (Af.map eInt)) (Z : Int) (Ar : (LEnt.blk O [U, iV Z] 25).holds w) (Ae : Value) (Aj : List ByteArray) (Ao : Slc (view w [O]) 1 Ae (Aj.map eStr)) (r : ByteArray × Int) (h : Stream_Some Af Z Aj = some r) :
    Calls Tryz.prog 16 [.pointer (some ⟨O, 0, none⟩), Ae].toArray w (Ret w [O] fun _ v w' => (LEnt.blk O [U, iV r.2] 25).holds w' ∧ v = sV r.1) := by
 refine f_enter [O] [.blk O [U, iV Z] 25] Tryz.func16 rfl Tryz.ntmps16 rfl (fun e he => by simp only [List.mem_singleton] at he;subst he;exact Ar) (by simp [fps, LEnt.fp]) (by simp [fps, LEnt.fp]) fun a S => ?_
 unfold Stream_Some at h
 replace S := S.nk [.blk O [U, iV Z] 25] [(0, .pointer (some ⟨O, 0, none⟩)), (1, Ae)] [true] rfl (subR rfl)
 refine Fs (Fg (lv S (Ra rfl) rfl ?_));clear S;intro a S
 refine Ld (Tn (Fs (Fg (lv S (Rm (S.tm rfl)) rfl ?_))));clear S;intro a S
 refine lv S (Rm (S.tm rfl)) rfl ?_;clear S;intro a S
 refine lv S (Rm (S.tm rfl)) rfl ?_;clear S;intro a S
 refine lv S (rn_lenT sl_65 (S.tm rfl) (slc_len Ao)) rfl ?_;clear S;intro a S
 obtain ⟨r1, hr1, h⟩ := bindE h
 refine l_enter1 0 S (b := O) rfl rfl (fun _ => .blk O [U, iV r1.2] 25) (fun _ => run_call (vs := [.pointer (some ⟨O, 0, none⟩), iV (Aj.length : Int)]) ⟨(S.tm rfl), (S.tm rfl), trivial⟩ Tryz.call15) (Stream_Next_ok _ O U Af (Ah.mono (S.le_arg (fp_sub (i := 0) (e := .blk O [U, iV Z] 25) rfl))) Z (S.holds _ (List.mem_of_getElem? (i := 0) rfl)) (Aj.length : Int) _ hr1) rfl (fun _ _ _ h => ⟨h.1, fun _ hc => by cases hc;rfl⟩) ?_;clear S;intro v1 a w1 hv1 hk1 hn1 S
 replace hv1 := hv1.2
 subst hv1
 obtain ⟨hc1, h⟩ := chkE h
 obtain ⟨b1, o1, hm1, hr2⟩ := rn_indexT (a := a) (x := .tmp 5) (y := .tmp 9) (ty := 0) sl_65 Ao (inB_get hc1).1 (inB_get hc1).2 (S.tm rfl) (S.tm rfl)
 refine lv S (hr2 _) rfl ?_;clear S;intro a S
 clear hr2
 refine lv S (rn_ld Tryz.isAgg9 (off := o1) (o := 0) (S.tm rfl) (hm1.at S.emb0) rfl) rfl ?_;clear S;intro a S
 refine lv S (Ra (S.tm rfl)) rfl ?_;clear S;intro a S
 refine Ld (Tn (wp_ret ?_))
 obtain rfl := Option.some.inj h
 exact f_ret S Tryz.results16 rfl ⟨(S.holds _ (List.mem_of_getElem? (i := 0) rfl)), rfl⟩
theorem Stream_Range_ok (w : World) (O : Nat) (U : Value) (Af : List Int) (Ah : Slc (view w [O]) 1 U (Af.map eInt)) (Z : Int) (Ar : (LEnt.blk O [U, iV Z] 25).holds w) (Ap : Int) (Am : Int) (r : Int × Int) (h : Stream_Range Af Z Ap Am = some r) :
    Calls Tryz.prog 46 [.pointer (some ⟨O, 0, none⟩), iV Ap, iV Am].toArray w (Ret w [O] fun _ v w' => (LEnt.blk O [U, iV r.2] 25).holds w' ∧ v = iV r.1) := by
 refine f_enter [O] [.blk O [U, iV Z] 25] Tryz.func46 rfl Tryz.ntmps46 rfl (fun e he => by simp only [List.mem_singleton] at he;subst he;exact Ar) (by simp [fps, LEnt.fp]) (by simp [fps, LEnt.fp]) fun a S => ?_
 unfold Stream_Range at h
 replace S := S.nk [.blk O [U, iV Z] 25] [(0, .pointer (some ⟨O, 0, none⟩)), (1, iV Ap), (2, iV Am)] [true] rfl (subR rfl)
 refine Fs (Fg (lv S (Ra rfl) rfl ?_));clear S;intro a S
 refine Ld (Tn (Fs (Fs (Fg (lv S (Rm (S.tm rfl)) rfl ?_)))));clear S;intro a S
 refine lv S (Rm (S.tm rfl)) rfl ?_;clear S;intro a S
 refine lv S (rn_lss (S.tm rfl) (S.tm rfl)) rfl ?_;clear S;intro a S
 refine Ld (Tn (f_cond (S.tm rfl) (fun hb1 => ?_) (fun hb1 => ?_)))
 ·replace h := iteT h hb1
  refine Fs (Fg (lv S (Rm (S.tm rfl)) rfl ?_));clear S;intro a S
  refine lv S (Ra (S.tm rfl)) rfl ?_;clear S;intro a S
  refine Ld (Tn (wp_ret (then_r ?_)))
  obtain rfl := Option.some.inj h
  exact f_ret S Tryz.results46 rfl ⟨(S.holds _ (List.mem_of_getElem? (i := 0) rfl)), rfl⟩
 ·replace h := iteF h hb1
  refine wp_skip (Tn (Fs (Fg (lv S (Rm (S.tm rfl)) rfl ?_))));clear S;intro a S
  iterate 3 (refine lv S (Rm (S.tm rfl)) rfl ?_;clear S;intro a S)
  refine lv S (rn_sub (S.tm rfl) (S.tm rfl)) rfl ?_;clear S;intro a S
  refine lv S (rn_add (S.tm rfl) rfl) rfl ?_;clear S;intro a S
  obtain ⟨r1, hr1, h⟩ := bindE h
  refine l_enter1 0 S (b := O) rfl rfl (fun _ => .blk O [U, iV r1.2] 25) (fun _ => run_call (vs := [.pointer (some ⟨O, 0, none⟩), iV (W ((W (Am - Ap)) + 1))]) ⟨(S.tm rfl), (S.tm rfl), trivial⟩ Tryz.call15) (Stream_Next_ok _ O U Af (Ah.mono (S.le_arg (fp_sub (i := 0) (e := .blk O [U, iV Z] 25) rfl))) Z (S.holds _ (List.mem_of_getElem? (i := 0) rfl)) (W ((W (Am - Ap)) + 1)) _ hr1) rfl (fun _ _ _ h => ⟨h.1, fun _ hc => by cases hc;rfl⟩) ?_;clear S;intro v1 a w1 hv1 hk1 hn1 S
  replace hv1 := hv1.2
  subst hv1
  refine lv S (rn_add (S.tm rfl) (S.tm rfl)) rfl ?_;clear S;intro a S
  refine lv S (Ra (S.tm rfl)) rfl ?_;clear S;intro a S
  refine Ld ?_
  replace S := S.nk [.blk O [U, iV r1.2] 25] [(6, iV (W (Ap + r1.1)))] [true] rfl ⟨rfl, trivial⟩
  refine Tn (wp_ret ?_)
  obtain rfl := Option.some.inj h
  exact f_ret S Tryz.results46 rfl ⟨(S.holds _ (List.mem_of_getElem? (i := 0) rfl)), rfl⟩
theorem Stream_Odd_ok (w : World) (O : Nat) (U : Value) (Af : List Int) (Ah : Slc (view w [O]) 1 U (Af.map eInt)) (Z : Int) (Ar : (LEnt.blk O [U, iV Z] 25).holds w) (Ap : Int) (Am : Int) (r : Int × Int) (h : Stream_Odd Af Z Ap Am = some r) :
    Calls Tryz.prog 18 [.pointer (some ⟨O, 0, none⟩), iV Ap, iV Am].toArray w (Ret w [O] fun _ v w' => (LEnt.blk O [U, iV r.2] 25).holds w' ∧ v = iV r.1) := by
 refine f_enter [O] [.blk O [U, iV Z] 25] Tryz.func18 rfl Tryz.ntmps18 rfl (fun e he => by simp only [List.mem_singleton] at he;subst he;exact Ar) (by simp [fps, LEnt.fp]) (by simp [fps, LEnt.fp]) fun a S => ?_
 unfold Stream_Odd at h
 replace S := S.nk [.blk O [U, iV Z] 25] [(0, .pointer (some ⟨O, 0, none⟩)), (1, iV Ap), (2, iV Am)] [true] rfl (subR rfl)
 refine Fs (Fg (lv S (Ra rfl) rfl ?_));clear S;intro a S
 refine Ld (Tn (Fs (Fs (Fg (lv S (Rm (S.tm rfl)) rfl ?_)))));clear S;intro a S
 obtain ⟨r1, hr1, h⟩ := bindE h
 refine l_enter1 0 S (b := O) rfl rfl (fun _ => .blk O [U, iV r1.2] 25) (fun _ => run_call (vs := [.pointer (some ⟨O, 0, none⟩), iV 12]) ⟨(S.tm rfl), rfl, trivial⟩ Tryz.call14) (Stream_Flip_ok _ O U Af (Ah.mono (S.le_arg (fp_sub (i := 0) (e := .blk O [U, iV Z] 25) rfl))) Z (S.holds _ (List.mem_of_getElem? (i := 0) rfl)) 12 _ hr1) rfl (fun _ _ _ h => ⟨h.1, fun _ hc => by cases hc;rfl⟩) ?_;clear S;intro v1 a w1 hv1 hk1 hn1 S
 replace hv1 := hv1.2
 subst hv1
 refine Ld (Tn (f_cond (S.tm rfl) (fun hb1 => ?_) (fun hb1 => ?_)))
 ·replace h := iteT h hb1
  refine Fs (Fg (lv S (Rm (S.tm rfl)) rfl ?_));clear S;intro a S
  refine lv S (Rm (S.tm rfl)) rfl ?_;clear S;intro a S
  refine lv S (rn_sub (S.tm rfl) rfl) rfl ?_;clear S;intro a S
  refine lv S (Rm (S.tm rfl)) rfl ?_;clear S;intro a S
  refine lv S (rn_add (S.tm rfl) rfl) rfl ?_;clear S;intro a S
  refine lv S (Rm (S.tm rfl)) rfl ?_;clear S;intro a S
  refine lv S (Rm (S.tm rfl)) rfl ?_;clear S;intro a S
  refine l_buildSlice S Tryz.underlying22 Tryz.sizeOf3 Tryz.zeroValue3 rfl rfl (pv := [(0, iV (W (Ap - 1))), (1, iV (W (Am + 1))), (2, iV Ap), (3, iV Am), (4, iV (-1099511627776)), (5, iV 1099511627776)]) ⟨rfl, (S.tm rfl), rfl, (S.tm rfl), rfl, (S.tm rfl), rfl, (S.tm rfl), rfl, rfl, rfl, rfl, trivial⟩ (cs := [iV (W (Ap - 1)), iV (W (Am + 1)), iV Ap, iV Am, iV (-1099511627776), iV 1099511627776]) (by kernel_rfl) rfl ?_;clear S;intro a w2 b1 hz1 hk2 S
  obtain ⟨r2, hr2, h⟩ := bindE h
  refine l_enter1 1 S (b := O) rfl rfl (fun _ => .blk O [U, iV r2.2] 25) (fun _ => run_call (vs := [.pointer (some ⟨O, 0, none⟩), .slice (some ⟨b1, 0, none⟩) 6 6]) ⟨(S.tm rfl), (S.tm rfl), trivial⟩ Tryz.call17) (Stream_Pick_ok _ O U Af (Ah.mono (S.le_arg (fp_sub (i := 1) (e := .blk O [U, iV r1.2] 25) rfl))) r1.2 (S.holds _ (List.mem_of_getElem? (i := 1) rfl)) (.slice (some ⟨b1, 0, none⟩) 6 6) [W (Ap - 1), W (Am + 1), Ap, Am, (-1099511627776), 1099511627776] (lit_slcT enc_int S (i := 0) rfl rfl rfl rfl ((ne_fp (i := 1) (j := 0) (e := .blk O [U, iV r1.2] 25) (e' := .blk b1 [iV (W (Ap - 1)), iV (W (Am + 1)), iV Ap, iV Am, iV (-1099511627776), iV 1099511627776] 3) S rfl rfl rfl) _ rfl)) _ hr2) rfl (fun _ _ _ h => ⟨h.1, fun _ hc => by cases hc;rfl⟩) ?_;clear S;intro v2 a w3 hv2 hk3 hn2 S
  replace hv2 := hv2.2
  subst hv2
  refine lv S (Ra (S.tm rfl)) rfl ?_;clear S;intro a S
  refine Ld ?_
  replace S := S.nk [.blk O [U, iV r2.2] 25] [(6, iV r2.1)] [false, true] rfl ⟨rfl, trivial⟩
  refine Tn (wp_ret (then_r ?_))
  obtain rfl := Option.some.inj h
  exact f_ret S Tryz.results18 rfl ⟨(S.holds _ (List.mem_of_getElem? (i := 0) rfl)), rfl⟩
 ·replace h := iteF h hb1
  refine wp_skip (Tn (Fs (Fg (lv S (Rm (S.tm rfl)) rfl ?_))));clear S;intro a S
  refine lv S (Rm (S.tm rfl)) rfl ?_;clear S;intro a S
  refine lv S (Rm (S.tm rfl)) rfl ?_;clear S;intro a S
  obtain ⟨r3, hr3, h⟩ := bindE h
  refine l_enter1 0 S (b := O) rfl rfl (fun _ => .blk O [U, iV r3.2] 25) (fun _ => run_call (vs := [.pointer (some ⟨O, 0, none⟩), iV Ap, iV Am]) ⟨(S.tm rfl), (S.tm rfl), (S.tm rfl), trivial⟩ Tryz.call46) (Stream_Range_ok _ O U Af (Ah.mono (S.le_arg (fp_sub (i := 0) (e := .blk O [U, iV r1.2] 25) rfl))) r1.2 (S.holds _ (List.mem_of_getElem? (i := 0) rfl)) Ap Am _ hr3) rfl (fun _ _ _ h => ⟨h.1, fun _ hc => by cases hc;rfl⟩) ?_;clear S;intro v3 a w4 hv3 hk4 hn3 S
  replace hv3 := hv3.2
  subst hv3
  refine lv S (Ra (S.tm rfl)) rfl ?_;clear S;intro a S
  refine Ld (Tn (wp_ret ?_))
  obtain rfl := Option.some.inj h
  exact f_ret S Tryz.results18 rfl ⟨(S.holds _ (List.mem_of_getElem? (i := 0) rfl)), rfl⟩
theorem Stream_Swimmers_ok (w : World) (O : Nat) (U : Value) (Af : List Int) (Ah : Slc (view w [O]) 1 U (Af.map eInt)) (Z : Int) (Ar : (LEnt.blk O [U, iV Z] 25).holds w) (r : (List GSwimmer) × Int) (h : Stream_Swimmers Af Z = some r) :
    Calls Tryz.prog 4 [.pointer (some ⟨O, 0, none⟩)].toArray w (Ret w [O] fun τ v w' => (LEnt.blk O [U, iV r.2] 25).holds w' ∧ OwnV τ 38 3 v r.1.length (r.1.flatMap GSwimmer.enc)) := by
 refine f_enter [O] [.blk O [U, iV Z] 25] Tryz.func4 rfl Tryz.ntmps4 rfl (fun e he => by simp only [List.mem_singleton] at he;subst he;exact Ar) (by simp [fps, LEnt.fp]) (by simp [fps, LEnt.fp]) fun a S => ?_
 unfold Stream_Swimmers at h
 replace S := S.nk [.blk O [U, iV Z] 25] [(0, .pointer (some ⟨O, 0, none⟩))] [true] rfl ⟨rfl, trivial⟩
 refine Fs (Fg (lv S (Ra rfl) rfl ?_));clear S;intro a S
 refine Ld (Tn (Fs (Fg (lv S (Rm (S.tm rfl)) rfl ?_))));clear S;intro a S
 obtain ⟨r1, hr1, h⟩ := bindE h
 have hz1 := S.keep.size
 refine l_enter1 0 S (b := O) rfl rfl (fun _ => .blk O [U, iV r1.2] 25) (fun _ => run_call (vs := [.pointer (some ⟨O, 0, none⟩)]) ⟨(S.tm rfl), trivial⟩ Tryz.call13) (Stream_RightSwimmers_ok _ O U Af (Ah.mono (S.le_arg (fp_sub (i := 0) (e := .blk O [U, iV Z] 25) rfl))) Z (S.holds _ (List.mem_of_getElem? (i := 0) rfl)) _ hr1) rfl (fun _ _ _ h => ⟨h.1, fun _ hc => by cases hc;rfl⟩) ?_;clear S;intro v1 a w1 hv1 hk1 hn1 S
 replace hv1 := hv1.2
 replace S := S.take hn1 hz1 hv1
 refine lv S (Ra (S.tm rfl)) rfl ?_;clear S;intro a S
 refine Ld (Tn (Fs (Fs (Fg (lv S (Rm (S.tm rfl)) rfl ?_)))));clear S;intro a S
 refine lv S (rn_lenT sl_26 (S.tm rfl) (own_len (S.own_at (i := 0) rfl))) rfl ?_;clear S;intro a S
 refine lv S (rn_gtr (S.tm rfl) rfl) rfl ?_;clear S;intro a S
 refine lv S (Rm (S.tm rfl)) rfl ?_;clear S;intro a S
 obtain ⟨j1, hj1, h⟩ := joinE h
 refine f_cutm 3 (fun a w' => ∃ x1 : Int, ∃ x2 : Bool, j1 x1 x2 = some r ∧ Sx w [O] nov [.own v1 38 3 r1.1.length (r1.1.flatMap GSwimmer.enc), .blk O [U, iV x1] 25] [(0, .pointer (some ⟨O, 0, none⟩)), (3, v1), (13, bV x2)] 42 a w') ?_ ?_
 ·rcases Bool.eq_false_or_eq_true (decide (0 < (r1.1.length : Int))) with hb1 | hb1
  ·replace h := iteT h hb1
   refine l_want S rfl rfl rfl hb1 (lv S (Rm (S.tm rfl)) rfl ?_);clear S;intro a S
   refine l_want S rfl rfl rfl hb1 ?_
   obtain ⟨r2, hr2, h⟩ := bindE h
   refine l_enter1 1 S (b := O) rfl rfl (fun _ => .blk O [U, iV r2.2] 25) (fun _ => run_call (vs := [.pointer (some ⟨O, 0, none⟩), iV 12]) ⟨(S.tm rfl), rfl, trivial⟩ Tryz.call14) (Stream_Flip_ok _ O U Af (Ah.mono (S.le_arg (fp_sub (i := 1) (e := .blk O [U, iV r1.2] 25) rfl))) r1.2 (S.holds _ (List.mem_of_getElem? (i := 1) rfl)) 12 _ hr2) rfl (fun _ _ _ h => ⟨h.1, fun _ hc => by cases hc;rfl⟩) ?_;clear S;intro v2 a w3 hv2 hk2 hn2 S
   replace hv2 := hv2.2
   subst hv2
   refine lv S (rn_pick_b hb1 (S.tm rfl) (S.tm rfl)) rfl ?_;clear S;intro a S
   refine Ld (Tn ?_)
   exact ⟨r2.2, r2.1, h, S.nf [true, true] rfl (subR rfl)⟩
  ·replace h := iteF h hb1
   refine l_skip S rfl rfl rfl (neq_f hb1) rfl ?_ rfl;clear S;intro a S
   refine l_skip S rfl rfl rfl (neq_f hb1) rfl ?_ rfl;clear S;intro a S
   refine lv S (rn_pick_c hb1 (S.tm rfl) rfl) rfl ?_;clear S;intro a S
   refine Ld (Tn ?_)
   exact ⟨r1.2, false, h, S.nf [true, true] rfl (subR rfl)⟩
 clear S h;rintro a w2 ⟨x1, x2, h, S⟩;rw [hj1] at h;clear hj1 j1
 refine Ld (Tn ?_)
 obtain ⟨j2, hj2, h⟩ := joinE h
 refine f_join (fun a w' => ∃ x3 : List GSwimmer, ∃ x4 : Int, j2 x3 x4 = some r ∧ Sx w [O] nov [.own v1 38 3 x3.length (x3.flatMap GSwimmer.enc), .blk O [U, iV x4] 25] [(3, v1)] 42 a w') ?_ ?_
 ·refine f_cond (S.tm rfl) (fun hb2 => ?_) (fun hb2 => ?_)
  ·replace h := iteT h hb2
   refine Fs (Fg (lv S (Rm (S.tm rfl)) rfl ?_));clear S;intro a S
   refine lv S (Rm (S.tm rfl)) rfl ?_;clear S;intro a S
   refine lv S (Rm (S.tm rfl)) rfl ?_;clear S;intro a S
   refine lv S (rn_lenT sl_26 (S.tm rfl) (own_len (S.own_at (i := 0) rfl))) rfl ?_;clear S;intro a S
   obtain ⟨r3, hr3, h⟩ := bindE h
   refine l_enter1 1 S (b := O) rfl rfl (fun _ => .blk O [U, iV r3.2] 25) (fun _ => run_call (vs := [.pointer (some ⟨O, 0, none⟩), iV (r1.1.length : Int)]) ⟨(S.tm rfl), (S.tm rfl), trivial⟩ Tryz.call15) (Stream_Next_ok _ O U Af (Ah.mono (S.le_arg (fp_sub (i := 1) (e := .blk O [U, iV x1] 25) rfl))) x1 (S.holds _ (List.mem_of_getElem? (i := 1) rfl)) (r1.1.length : Int) _ hr3) rfl (fun _ _ _ h => ⟨h.1, fun _ hc => by cases hc;rfl⟩) ?_;clear S;intro v3 a w5 hv3 hk3 hn3 S
   replace hv3 := hv3.2
   subst hv3
   obtain ⟨hc1, h⟩ := chkE h
   obtain ⟨b1, hg1, hr4⟩ := rn_indexS (a := a) (x := .tmp 14) (y := .tmp 18) (ty := 0) sl_26 GSwimmer.enc_ok S (i := 0) rfl (inB_get hc1).1 (inB_get hc1).2 (S.tm rfl) (S.tm rfl)
   refine lv S (hr4 _) rfl ?_;clear S;intro a S
   clear hr4
   refine lv S (Ra (S.tm rfl)) rfl ?_;clear S;intro a S
   refine Ld (Tn (Fg (lv S (Rm (S.tm rfl)) rfl ?_)));clear S;intro a S
   iterate 4 (refine lv S (Rm (S.tm rfl)) rfl ?_;clear S;intro a S)
   refine lv S (rn_nilCheck (S.tm rfl)) rfl ?_;clear S;intro a S
   refine lv S (rn_fld fa_38_0 (S.tm rfl)) rfl ?_;clear S;intro a S
   refine lv S (rn_ld Tryz.isAgg9 (off := r3.1.toNat * 3) (o := 0) (S.tm rfl) (own_cells GSwimmer.enc_ok S (i := 0) rfl hg1 (inB_get hc1).1) rfl) rfl ?_;clear S;intro a S
   refine l_buildSlice S Tryz.underlying65 Tryz.sizeOf9 Tryz.zeroValue9 rfl rfl (pv := [(0, sV ((nth r1.1 r3.1).Key)), (1, sV k_empty), (2, sV k_ann)]) ⟨rfl, (S.tm rfl), rfl, rfl, rfl, rfl, trivial⟩ (cs := [sV ((nth r1.1 r3.1).Key), sV k_empty, sV k_ann]) (by kernel_rfl) rfl ?_;clear S;intro a w6 b2 hz2 hk4 S
   obtain ⟨r4, hr5, h⟩ := bindE h
   refine l_enter1 2 S (b := O) rfl rfl (fun _ => .blk O [U, iV r4.2] 25) (fun _ => run_call (vs := [.pointer (some ⟨O, 0, none⟩), .slice (some ⟨b2, 0, none⟩) 3 3]) ⟨(S.tm rfl), (S.tm rfl), trivial⟩ Tryz.call16) (Stream_Some_ok _ O U Af (Ah.mono (S.le_arg (fp_sub (i := 2) (e := .blk O [U, iV r3.2] 25) rfl))) r3.2 (S.holds _ (List.mem_of_getElem? (i := 2) rfl)) (.slice (some ⟨b2, 0, none⟩) 3 3) [(nth r1.1 r3.1).Key, k_empty, k_ann] (lit_slcT enc_str S (i := 0) rfl rfl rfl rfl ((ne_fp (i := 2) (j := 0) (e := .blk O [U, iV r3.2] 25) (e' := .blk b2 [sV ((nth r1.1 r3.1).Key), sV k_empty, sV k_ann] 9) S rfl rfl rfl) _ rfl)) _ hr5) rfl (fun _ _ _ h => ⟨h.1, fun _ hc => by cases hc;rfl⟩) ?_;clear S;intro v4 a w7 hv4 hk5 hn4 S
   replace hv4 := hv4.2
   subst hv4
   refine lv S (Rm (S.tm rfl)) rfl ?_;clear S;intro a S
   refine l_buildSlice S Tryz.underlying22 Tryz.sizeOf3 Tryz.zeroValue3 rfl rfl (pv := [(0, iV 0), (1, iV 1), (2, iV 2), (3, iV 3)]) ⟨rfl, rfl, rfl, rfl, rfl, rfl, rfl, rfl, trivial⟩ (cs := [iV 0, iV 1, iV 2, iV 3]) (by kernel_rfl) rfl ?_;clear S;intro a w8 b3 hz3 hk6 S
   obtain ⟨r5, hr6, h⟩ := bindE h
   refine l_enter1 3 S (b := O) rfl rfl (fun _ => .blk O [U, iV r5.2] 25) (fun _ => run_call (vs := [.pointer (some ⟨O, 0, none⟩), .slice (some ⟨b3, 0, none⟩) 4 4]) ⟨(S.tm rfl), (S.tm rfl), trivial⟩ Tryz.call17) (Stream_Pick_ok _ O U Af (Ah.mono (S.le_arg (fp_sub (i := 3) (e := .blk O [U, iV r4.2] 25) rfl))) r4.2 (S.holds _ (List.mem_of_getElem? (i := 3) rfl)) (.slice (some ⟨b3, 0, none⟩) 4 4) [0, 1, 2, 3] (lit_slcT enc_int S (i := 0) rfl rfl rfl rfl ((ne_fp (i := 3) (j := 0) (e := .blk O [U, iV r4.2] 25) (e' := .blk b3 [iV 0, iV 1, iV 2, iV 3] 3) S rfl rfl rfl) _ rfl)) _ hr6) rfl (fun _ _ _ h => ⟨h.1, fun _ hc => by cases hc;rfl⟩) ?_;clear S;intro v5 a w9 hv5 hk7 hn5 S
   replace hv5 := hv5.2
   subst hv5
   refine lv S (Rm (S.tm rfl)) rfl ?_;clear S;intro a S
   obtain ⟨r6, hr7, h⟩ := bindE h
   refine l_enter1 3 S (b := O) rfl rfl (fun _ => .blk O [U, iV r6.2] 25) (fun _ => run_call (vs := [.pointer (some ⟨O, 0, none⟩), iV (-40000), iV 4000]) ⟨(S.tm rfl), rfl, rfl, trivial⟩ Tryz.call18) (Stream_Odd_ok _ O U Af (Ah.mono (S.le_arg (fp_sub (i := 3) (e := .blk O [U, iV r5.2] 25) rfl))) r5.2 (S.holds _ (List.mem_of_getElem? (i := 3) rfl)) (-40000) 4000 _ hr7) rfl (fun _ _ _ h => ⟨h.1, fun _ hc => by cases hc;rfl⟩) ?_;clear S;intro v6 a w10 hv6 hk8 hn6 S
   replace hv6 := hv6.2
   subst hv6
   refine lv S (rn_nilCheck (S.tm rfl)) rfl ?_;clear S;intro a S
   refine lv S (rn_fld fa_38_0 (S.tm rfl)) rfl ?_;clear S;intro a S
   refine l_storeO (c := 0) (j := r3.1.toNat) (GSwimmer.mk r4.1 ((nth r1.1 r3.1).Sex) ((nth r1.1 r3.1).Born)) GSwimmer.enc_ok S (S.tm rfl) (S.tm rfl) (i := 2) rfl hg1 (inB_get hc1).1 Tryz.sizeOf9 (vs := [sV r4.1]) rfl rfl rfl rfl rfl ?_;clear S;intro w12 hk10 S
   refine lv S (rn_nilCheck (S.tm rfl)) rfl ?_;clear S;intro a S
   refine lv S (rn_fld fa_38_1 (S.tm rfl)) rfl ?_;clear S;intro a S
   refine l_storeO (c := 1) (j := r3.1.toNat) (GSwimmer.mk r4.1 r5.1 ((nth r1.1 r3.1).Born)) GSwimmer.enc_ok S (S.tm rfl) (S.tm rfl) (i := 2) rfl hg1 (get_set (inB_get hc1).1) Tryz.sizeOf3 (vs := [iV r5.1]) rfl rfl rfl rfl rfl ?_;clear S;intro w14 hk12 S
   refine lv S (rn_nilCheck (S.tm rfl)) rfl ?_;clear S;intro a S
   refine lv S (rn_fld fa_38_2 (S.tm rfl)) rfl ?_;clear S;intro a S
   refine l_storeO (c := 2) (j := r3.1.toNat) (GSwimmer.mk r4.1 r5.1 r6.1) GSwimmer.enc_ok S (S.tm rfl) (S.tm rfl) (i := 2) rfl hg1 (get_set (get_set (inB_get hc1).1)) Tryz.sizeOf3 (vs := [iV r6.1]) rfl rfl rfl rfl rfl ?_;clear S;intro w16 hk14 S
   refine Ld ?_
   replace S := S.nk [.own v1 38 3 (((r1.1.set r3.1.toNat (GSwimmer.mk r4.1 ((nth r1.1 r3.1).Sex) ((nth r1.1 r3.1).Born))).set r3.1.toNat (GSwimmer.mk r4.1 r5.1 ((nth r1.1 r3.1).Born))).set r3.1.toNat (GSwimmer.mk r4.1 r5.1 r6.1)).length ((((r1.1.set r3.1.toNat (GSwimmer.mk r4.1 ((nth r1.1 r3.1).Sex) ((nth r1.1 r3.1).Born))).set r3.1.toNat (GSwimmer.mk r4.1 r5.1 ((nth r1.1 r3.1).Born))).set r3.1.toNat (GSwimmer.mk r4.1 r5.1 r6.1)).flatMap GSwimmer.enc), .blk O [U, iV r6.2] 25] [(3, v1)] [false, false, true, true] rfl ⟨rfl, trivial⟩
   refine Tn ?_
   exact ⟨(((r1.1.set r3.1.toNat (GSwimmer.mk r4.1 ((nth r1.1 r3.1).Sex) ((nth r1.1 r3.1).Born))).set r3.1.toNat (GSwimmer.mk r4.1 r5.1 ((nth r1.1 r3.1).Born))).set r3.1.toNat (GSwimmer.mk r4.1 r5.1 r6.1)), r6.2, h, S.nf [true, true] rfl ⟨rfl, trivial⟩⟩
  ·replace h := iteF h hb2
   refine wp_skip (Tn ?_)
   exact ⟨r1.1, x1, h, S.nf [true, true] rfl ⟨rfl, trivial⟩⟩
 clear S h;rintro a w4 ⟨x3, x4, h, S⟩;rw [hj2] at h;clear hj2 j2
 refine Tn (Fs (Fg (lv S (Rm (S.tm rfl)) rfl ?_)));clear S;intro a S
 refine lv S (Ra (S.tm rfl)) rfl ?_;clear S;intro a S
 refine Ld (Tn (wp_ret ?_))
 obtain rfl := Option.some.inj h
 exact f_ret S Tryz.results4 rfl ⟨(S.holds _ (List.mem_of_getElem? (i := 1) rfl)), (own_retX S (i := 0) rfl (fun c hc hh => not_fps S (i := 1) rfl rfl (j := 0) rfl rfl (by simp at hc;subst hc;exact hh)))⟩
theorem tumbref2_pastDate_ok (w : World) (r : GDate) (h : tumbref2_pastDate = r) :
    Calls Tryz.prog 54 [].toArray w (Ret w [] fun _ v _ => v = .agg (GDate.enc r).toArray) := by
 refine f_enter [] [] Tryz.func54 rfl Tryz.ntmps54 rfl (by simp) (by simp [fps]) (by simp [fps]) fun a S => ?_
 unfold tumbref2_pastDate at h
 replace S := S.nk [] [] [] rfl trivial
 refine Fs (Fg (l_alloc S Tryz.zeroValue53 (cs := [iV 0, iV 0, iV 0]) rfl rfl ?_));clear S;intro a w1 b1 hz1 hk1 S
 refine Ld (Tn (Fs (Fg (lv S (rn_bld bt_53 (pv := [(0, iV 1914), (1, iV 6), (2, iV 27)]) ⟨rfl, rfl, rfl, rfl, rfl, rfl, trivial⟩ (cs := [iV 1914, iV 6, iV 27]) (by kernel_rfl)) rfl ?_))));clear S;intro a S
 refine l_store S (S.tm rfl) (S.tm rfl) (i := 0) (off := 0) rfl Tryz.sizeOf53 (vs := [iV 1914, iV 6, iV 27]) rfl rfl rfl rfl ?_;clear S;intro w2 hk2 S
 refine Ld (Tn (wp_ret ?_))
 subst h
 exact f_retG S (rs := [.cell 0 53]) (vs := [.agg #[iV 1914, iV 6, iV 27]]) Tryz.results54 ⟨(res_cell (off := 0) S rfl Tryz.isAgg53 Tryz.sizeOf53 rfl (S.cellsAt (i := 0) rfl)), trivial⟩ rfl rfl
theorem tumbref2_monthLong_ok (w : World) (Bb : Int) (Bn : Int) (r : Int) (h : tumbref2_monthLong Bb Bn = some r) :
    Calls Tryz.prog 55 [iV Bb, iV Bn].toArray w (Ret w [] fun _ v _ => v = iV r) := by
 refine f_enter [] [] Tryz.func55 rfl Tryz.ntmps55 rfl (by simp) (by simp [fps]) (by simp [fps]) fun a S => ?_
 unfold tumbref2_monthLong at h
 replace S := S.nk [] [(0, iV Bb), (1, iV Bn)] [] rfl (subR rfl)
 refine Fs (Fg (lv S (Ra rfl) rfl ?_));clear S;intro a S
 refine Ld (Tn (Fs (Fs (Fg (lv S (Rm (S.tm rfl)) rfl ?_)))));clear S;intro a S
 refine lv S (rn_eql (S.tm rfl) rfl) rfl ?_;clear S;intro a S
 refine lv S (Rm (S.tm rfl)) rfl ?_;clear S;intro a S
 refine f_cutm 14 (fun a w' => Keep [] w w' ∧ Sx w [] nov [] [(1, iV Bn), (21, bV ((decide (Bn = 2)) && (((decide ((Int.tmod Bb 4) = 0)) && (!decide ((Int.tmod Bb 100) = 0))) || (decide ((Int.tmod Bb 400) = 0)))))] 27 a w') ?_ ?_
 ·rcases Bool.eq_false_or_eq_true (decide (Bn = 2)) with hb1 | hb1
  ·refine l_want S rfl rfl rfl hb1 (lv S (Rm (S.tm rfl)) rfl ?_);clear S;intro a S
   refine l_want S rfl rfl rfl hb1 (lv S (rn_rem (S.tm rfl) rfl (by decide)) rfl ?_);clear S;intro a S
   refine l_want S rfl rfl rfl hb1 (lv S (rn_eql (S.tm rfl) rfl) rfl ?_);clear S;intro a S
   refine l_want S rfl rfl rfl hb1 (lv S (Rm (S.tm rfl)) rfl ?_);clear S;intro a S
   refine f_cutm 4 (fun a w' => Keep [] w w' ∧ Sx w [] nov [] [(0, iV Bb), (1, iV Bn), (7, bV (decide (Bn = 2))), (15, bV ((decide ((Int.tmod Bb 4) = 0)) && (!decide ((Int.tmod Bb 100) = 0))))] 27 a w') ?_ ?_
   ·rcases Bool.eq_false_or_eq_true (decide ((Int.tmod Bb 4) = 0)) with hb2 | hb2
    ·refine l_want S rfl rfl rfl hb2 (lv S (Rm (S.tm rfl)) rfl ?_);clear S;intro a S
     refine l_want S rfl rfl rfl hb2 (lv S (rn_rem (S.tm rfl) rfl (by decide)) rfl ?_);clear S;intro a S
     refine l_want S rfl rfl rfl hb2 (lv S (rn_neq (S.tm rfl) rfl) rfl ?_);clear S;intro a S
     refine l_want S rfl rfl rfl hb1 (lv S (rn_and_t hb2 (S.tm rfl) (S.tm rfl)) rfl ?_);clear S;intro a S
     refine Ld (Tn ?_)
     exact ⟨Keep.refl _ _, S.nf [] rfl (subR rfl)⟩
    ·iterate 3 (refine l_skip S rfl rfl rfl (neq_f hb2) rfl ?_ rfl;clear S;intro a S)
     refine l_want S rfl rfl rfl hb1 (lv S (rn_and_f (!decide ((Int.tmod Bb 100) = 0)) hb2 (S.tm rfl) rfl) rfl ?_);clear S;intro a S
     refine Ld (Tn ?_)
     exact ⟨Keep.refl _ _, S.nf [] rfl (subR rfl)⟩
   clear S;rintro a w2 ⟨hk1, S⟩
   refine l_want S rfl rfl rfl hb1 (lv S (Rm (S.tm rfl)) rfl ?_);clear S;intro a S
   refine f_cutm 4 (fun a w' => Keep [] w2 w' ∧ Sx w [] nov [] [(1, iV Bn), (7, bV (decide (Bn = 2))), (20, bV (((decide ((Int.tmod Bb 4) = 0)) && (!decide ((Int.tmod Bb 100) = 0))) || (decide ((Int.tmod Bb 400) = 0))))] 27 a w') ?_ ?_
   ·rcases Bool.eq_false_or_eq_true ((decide ((Int.tmod Bb 4) = 0)) && (!decide ((Int.tmod Bb 100) = 0))) with hb3 | hb3
    ·iterate 3 (refine l_skip S rfl rfl rfl (neq_t hb3) rfl ?_ rfl;clear S;intro a S)
     refine l_want S rfl rfl rfl hb1 (lv S (rn_or_t (decide ((Int.tmod Bb 400) = 0)) hb3 (S.tm rfl) rfl) rfl ?_);clear S;intro a S
     refine Ld (Tn ?_)
     exact ⟨Keep.refl _ _, S.nf [] rfl (subR rfl)⟩
    ·refine l_want S rfl rfl rfl hb3 (lv S (Rm (S.tm rfl)) rfl ?_);clear S;intro a S
     refine l_want S rfl rfl rfl hb3 (lv S (rn_rem (S.tm rfl) rfl (by decide)) rfl ?_);clear S;intro a S
     refine l_want S rfl rfl rfl hb3 (lv S (rn_eql (S.tm rfl) rfl) rfl ?_);clear S;intro a S
     refine l_want S rfl rfl rfl hb1 (lv S (rn_or_f hb3 (S.tm rfl) (S.tm rfl)) rfl ?_);clear S;intro a S
     refine Ld (Tn ?_)
     exact ⟨Keep.refl _ _, S.nf [] rfl (subR rfl)⟩
   clear S;rintro a w3 ⟨hk2, S⟩
   refine lv S (rn_and_t hb1 (S.tm rfl) (S.tm rfl)) rfl ?_;clear S;intro a S
   refine Ld (Tn ?_)
   exact ⟨(hk1).trans hk2, S.nf [] rfl (subR rfl)⟩
  ·iterate 4 (refine l_skip S rfl rfl rfl (neq_f hb1) rfl ?_ rfl;clear S;intro a S)
   iterate 3 (refine l_skipU S rfl rfl rfl rfl ?_;clear S;intro a S)
   refine l_skip S rfl rfl rfl (neq_f hb1) rfl ?_ rfl;clear S;intro a S
   refine l_skip S rfl rfl rfl (neq_f hb1) rfl ?_ rfl;clear S;intro a S
   iterate 3 (refine l_skipU S rfl rfl rfl rfl ?_;clear S;intro a S)
   refine l_skip S rfl rfl rfl (neq_f hb1) rfl ?_ rfl;clear S;intro a S
   refine lv S (rn_and_f (((decide ((Int.tmod Bb 4) = 0)) && (!decide ((Int.tmod Bb 100) = 0))) || (decide ((Int.tmod Bb 400) = 0))) hb1 (S.tm rfl) rfl) rfl ?_;clear S;intro a S
   refine Ld (Tn ?_)
   exact ⟨Keep.refl _ _, S.nf [] rfl (subR rfl)⟩
 clear S;rintro a w1 ⟨hk3, S⟩
 refine Ld (Tn (f_cond (S.tm rfl) (fun hb4 => ?_) (fun hb4 => ?_)))
 ·replace h := iteT h hb4
  refine Fs (Fg (lv S (Ra rfl) rfl ?_));clear S;intro a S
  refine Ld (Tn (wp_ret (then_r ?_)))
  obtain rfl := Option.some.inj h
  exact f_ret S Tryz.results55 rfl rfl
 ·replace h := iteF h hb4
  refine wp_skip (Tn (Fs (Fg (l_buildSlice S Tryz.underlying22 Tryz.sizeOf3 Tryz.zeroValue3 rfl rfl (pv := [(0, iV 31), (1, iV 28), (2, iV 31), (3, iV 30), (4, iV 31), (5, iV 30), (6, iV 31), (7, iV 31), (8, iV 30), (9, iV 31), (10, iV 30), (11, iV 31)]) ⟨rfl, rfl, rfl, rfl, rfl, rfl, rfl, rfl, rfl, rfl, rfl, rfl, rfl, rfl, rfl, rfl, rfl, rfl, rfl, rfl, rfl, rfl, rfl, rfl, trivial⟩ (cs := [iV 31, iV 28, iV 31, iV 30, iV 31, iV 30, iV 31, iV 31, iV 30, iV 31, iV 30, iV 31]) (by kernel_rfl) rfl ?_))));clear S;intro a w4 b1 hz1 hk4 S
  refine lv S (Rm (S.tm rfl)) rfl ?_;clear S;intro a S
  refine lv S (rn_sub (S.tm rfl) rfl) rfl ?_;clear S;intro a S
  obtain ⟨hc1, h⟩ := chkE h
  obtain ⟨b2, o1, hm1, hr1⟩ := rn_indexT (a := a) (x := .tmp 22) (y := .tmp 24) (ty := 0) sl_22 (lit_slcT enc_int S (i := 0) rfl rfl rfl rfl ((ne_nil (e' := .blk b1 [iV 31, iV 28, iV 31, iV 30, iV 31, iV 30, iV 31, iV 31, iV 30, iV 31, iV 30, iV 31] 3)) _ rfl)) (inB_get hc1).1 (inB_get hc1).2 (S.tm rfl) (S.tm rfl)
  refine lv S (hr1 _) rfl ?_;clear S;intro a S
  clear hr1
  refine lv S (rn_ld Tryz.isAgg3 (off := o1) (o := 0) (S.tm rfl) hm1.now rfl) rfl ?_;clear S;intro a S
  refine lv S (Ra (S.tm rfl)) rfl ?_;clear S;intro a S
  refine Ld (Tn (wp_ret ?_))
  obtain rfl := Option.some.inj h
  exact f_ret S Tryz.results55 rfl rfl
set_option maxRecDepth 20000 in
theorem tumbref2_next_ok (w : World) (V : GDate) (r : GDate) (h : tumbref2_next V = some r) :
    Calls Tryz.prog 56 [.agg (GDate.enc V).toArray].toArray w (Ret w [] fun _ v _ => v = .agg (GDate.enc r).toArray) := by
 refine f_enter [] [] Tryz.func56 rfl Tryz.ntmps56 rfl (by simp) (by simp [fps]) (by simp [fps]) fun a S => ?_
 unfold tumbref2_next at h
 replace S := S.nk [] [(0, .agg (GDate.enc V).toArray)] [] rfl ⟨rfl, trivial⟩
 refine Fs (Fg (l_box S (S.tm rfl) (cs := (GDate.enc V)) rfl rfl ?_));clear S;intro a w1 b1 hz1 hk1 S
 refine l_alloc S Tryz.zeroValue53 (cs := [iV 0, iV 0, iV 0]) rfl rfl ?_;clear S;intro a w2 b2 hz2 hk2 S
 refine Ld (Tn (Fs (Fs (Fg (lv S (rn_fld fa_53_2 (S.tm rfl)) rfl ?_)))));clear S;intro a S
 refine lv S (rn_load Tryz.isAgg3 (S.tm rfl) (S.cell (i := 1) rfl rfl)) rfl ?_;clear S;intro a S
 refine lv S (rn_add (S.tm rfl) rfl) rfl ?_;clear S;intro a S
 refine lv S (rn_fld fa_53_2 (S.tm rfl)) rfl ?_;clear S;intro a S
 refine l_store S (S.tm rfl) (S.tm rfl) (i := 1) (off := 2) rfl Tryz.sizeOf3 (vs := [iV (W (V.Day + 1))]) rfl rfl rfl rfl ?_;clear S;intro w3 hk3 S
 refine Ld (Tn (Fs ?_))
 obtain ⟨r1, hr1, h⟩ := bindE h
 refine d_region [] ([]) Tryz.mixed S rfl (by kernel_rfl) ?_;clear S;intro w5 hk5 hsel S
 refine d_quiet 0 S hsel rfl rfl rfl (by kernel_rfl) (by kernel_rfl) rfl (fun _ hw => (rn_fld fa_53_2 (S.tm rfl))) ?_;clear S;intro a S
 refine d_quiet 1 S hsel rfl rfl rfl (by kernel_rfl) (by kernel_rfl) rfl (fun _ hw => (rn_ld Tryz.isAgg3 (off := 0) (o := 2) (S.tm rfl) ((S.blk_mem (i := 1) (cells := [iV V.Year, iV V.Month, iV (W (V.Day + 1))]) (b := b1) (T := 53) rfl (ne_nil (e' := .blk b1 [iV V.Year, iV V.Month, iV (W (V.Day + 1))] 53))).kept hw) rfl)) ?_;clear S;intro a S
 refine d_quiet 2 S hsel rfl rfl rfl (by kernel_rfl) (by kernel_rfl) rfl (fun _ hw => (rn_fld fa_53_0 (S.tm rfl))) ?_;clear S;intro a S
 refine d_quiet 3 S hsel rfl rfl rfl (by kernel_rfl) (by kernel_rfl) rfl (fun _ hw => (rn_ld Tryz.isAgg3 (off := 0) (o := 0) (S.tm rfl) ((S.blk_mem (i := 1) (cells := [iV V.Year, iV V.Month, iV (W (V.Day + 1))]) (b := b1) (T := 53) rfl (ne_nil (e' := .blk b1 [iV V.Year, iV V.Month, iV (W (V.Day + 1))] 53))).kept hw) rfl)) ?_;clear S;intro a S
 refine d_quiet 4 S hsel rfl rfl rfl (by kernel_rfl) (by kernel_rfl) rfl (fun _ hw => (rn_fld fa_53_1 (S.tm rfl))) ?_;clear S;intro a S
 refine d_quiet 5 S hsel rfl rfl rfl (by kernel_rfl) (by kernel_rfl) rfl (fun _ hw => (rn_ld Tryz.isAgg3 (off := 0) (o := 1) (S.tm rfl) ((S.blk_mem (i := 1) (cells := [iV V.Year, iV V.Month, iV (W (V.Day + 1))]) (b := b1) (T := 53) rfl (ne_nil (e' := .blk b1 [iV V.Year, iV V.Month, iV (W (V.Day + 1))] 53))).kept hw) rfl)) ?_;clear S;intro a S
 refine d_loud1 6 (by kernel_rfl) rfl (l_enter S (fun _ => run_call (vs := [iV V.Year, iV V.Month]) ⟨(S.tm rfl), (S.tm rfl), trivial⟩ Tryz.call55) (tumbref2_monthLong_ok _ V.Year V.Month _ hr1) rfl ?_);clear S;intro v2 a w6 hv2 hk6 hn2 S
 subst hv2
 refine Ld (d_next hk6 (d_rest [7] hsel (by kernel_rfl) rfl ?_))
 clear hsel
 refine s_lv S rfl (rn_gtr (S.tm rfl) (S.tm rfl)) rfl ?_;clear S;intro a S
 refine s_done ?_
 replace S := S.nk [.blk b2 [iV 0, iV 0, iV 0] 53, .blk b1 [iV V.Year, iV V.Month, iV (W (V.Day + 1))] 53] [(1, .pointer (some ⟨b1, 0, none⟩)), (2, .pointer (some ⟨b2, 0, none⟩)), (14, bV (decide (r1 < (W (V.Day + 1)))))] [true, true] rfl (subR rfl)
 refine Tn ?_
 obtain ⟨j1, hj1, h⟩ := joinE h
 refine f_join (fun a w' => ∃ x1 : Int, ∃ x2 : Int, ∃ x3 : Int, j1 x1 x2 x3 = some r ∧ Sx w [] nov [.blk b2 [iV 0, iV 0, iV 0] 53, .blk b1 [iV x1, iV x2, iV x3] 53] [(1, .pointer (some ⟨b1, 0, none⟩)), (2, .pointer (some ⟨b2, 0, none⟩))] 29 a w') ?_ ?_
 ·refine f_cond (S.tm rfl) (fun hb1 => ?_) (fun hb1 => ?_)
  ·replace h := iteT h hb1
   refine Fs (Fg (lv S (rn_fld fa_53_2 (S.tm rfl)) rfl ?_));clear S;intro a S
   refine l_store S (S.tm rfl) rfl (i := 1) (off := 2) rfl Tryz.sizeOf3 (vs := [iV 1]) rfl rfl rfl rfl ?_;clear S;intro w8 hk7 S
   refine Ld (Tn (Fs (Fg (lv S (rn_fld fa_53_1 (S.tm rfl)) rfl ?_))));clear S;intro a S
   refine lv S (rn_load Tryz.isAgg3 (S.tm rfl) (S.cell (i := 1) rfl rfl)) rfl ?_;clear S;intro a S
   refine lv S (rn_add (S.tm rfl) rfl) rfl ?_;clear S;intro a S
   refine lv S (rn_fld fa_53_1 (S.tm rfl)) rfl ?_;clear S;intro a S
   refine l_store S (S.tm rfl) (S.tm rfl) (i := 1) (off := 1) rfl Tryz.sizeOf3 (vs := [iV (W (V.Month + 1))]) rfl rfl rfl rfl ?_;clear S;intro w9 hk8 S
   refine Ld (Tn (Fs (Fg (lv S (rn_fld fa_53_1 (S.tm rfl)) rfl ?_))));clear S;intro a S
   refine lv S (rn_load Tryz.isAgg3 (S.tm rfl) (S.cell (i := 1) rfl rfl)) rfl ?_;clear S;intro a S
   refine lv S (rn_gtr (S.tm rfl) rfl) rfl ?_;clear S;intro a S
   refine Ld (Tn ?_)
   obtain ⟨j2, hj2, h⟩ := joinE h
   refine f_join (fun a w' => ∃ x4 : Int, ∃ x5 : Int, j2 x4 x5 = some r ∧ Sx w [] nov [.blk b2 [iV 0, iV 0, iV 0] 53, .blk b1 [iV x4, iV x5, iV 1] 53] [(1, .pointer (some ⟨b1, 0, none⟩)), (2, .pointer (some ⟨b2, 0, none⟩))] 29 a w') ?_ ?_
   ·refine f_cond (S.tm rfl) (fun hb2 => ?_) (fun hb2 => ?_)
    ·replace h := iteT h hb2
     refine Fg (lv S (rn_fld fa_53_0 (S.tm rfl)) rfl ?_);clear S;intro a S
     refine lv S (rn_load Tryz.isAgg3 (S.tm rfl) (S.cell (i := 1) rfl rfl)) rfl ?_;clear S;intro a S
     refine lv S (rn_add (S.tm rfl) rfl) rfl ?_;clear S;intro a S
     refine lv S (rn_fld fa_53_1 (S.tm rfl)) rfl ?_;clear S;intro a S
     refine l_store S (S.tm rfl) rfl (i := 1) (off := 1) rfl Tryz.sizeOf3 (vs := [iV 1]) rfl rfl rfl rfl ?_;clear S;intro w11 hk9 S
     refine lv S (rn_fld fa_53_0 (S.tm rfl)) rfl ?_;clear S;intro a S
     refine l_store S (S.tm rfl) (S.tm rfl) (i := 1) (off := 0) rfl Tryz.sizeOf3 (vs := [iV (W (V.Year + 1))]) rfl rfl rfl rfl ?_;clear S;intro w12 hk10 S
     refine Ld ?_
     replace S := S.nk [.blk b2 [iV 0, iV 0, iV 0] 53, .blk b1 [iV (W (V.Year + 1)), iV 1, iV 1] 53] [(1, .pointer (some ⟨b1, 0, none⟩)), (2, .pointer (some ⟨b2, 0, none⟩))] [true, true] rfl (subR rfl)
     refine Tn ?_
     exact ⟨W (V.Year + 1), 1, h, S.nf [true, true] rfl (subR rfl)⟩
    ·replace h := iteF h hb2
     refine wp_skip (Tn ?_)
     exact ⟨V.Year, W (V.Month + 1), h, S.nf [true, true] rfl (subR rfl)⟩
   clear S h;rintro a w10 ⟨x4, x5, h, S⟩;rw [hj2] at h;clear hj2 j2
   refine Tn ?_
   exact ⟨x4, x5, 1, h, S.nf [true, true] rfl (subR rfl)⟩
  ·replace h := iteF h hb1
   refine wp_skip (Tn ?_)
   exact ⟨V.Year, V.Month, W (V.Day + 1), h, S.nf [true, true] rfl (subR rfl)⟩
 clear S h;rintro a w7 ⟨x1, x2, x3, h, S⟩;rw [hj1] at h;clear hj1 j1
 refine Tn (Fs (Fg (lv S (rn_ldA Tryz.isAgg53 Tryz.sizeOf53 (off := 0) (o := 0) (part := [iV x1, iV x2, iV x3]) rfl rfl (S.tm rfl) (S.cellsAt (i := 1) rfl)) rfl ?_)));clear S;intro a S
 refine l_store S (S.tm rfl) (S.tm rfl) (i := 0) (off := 0) rfl Tryz.sizeOf53 (vs := [iV x1, iV x2, iV x3]) rfl rfl rfl rfl ?_;clear S;intro w13 hk11 S
 refine Ld (Tn (wp_ret ?_))
 obtain rfl := Option.some.inj h
 exact f_retG S (rs := [.cell 2 53]) (vs := [.agg #[iV x1, iV x2, iV x3]]) Tryz.results56 ⟨(res_cell (off := 0) S rfl Tryz.isAgg53 Tryz.sizeOf53 rfl (S.cellsAt (i := 0) rfl)), trivial⟩ rfl rfl
set_option maxRecDepth 20000 in
theorem tumbref2_DateFor_ok (w : World) (Aw : Int) (r : GDate) (h : tumbref2_DateFor Aw = some r) :
    Calls Tryz.prog 29 [iV Aw].toArray w (Ret w [] fun _ v _ => v = .agg (GDate.enc r).toArray) := by
 refine f_enter [] [] Tryz.func29 rfl Tryz.ntmps29 rfl (by simp) (by simp [fps]) (by simp [fps]) fun a S => ?_
 unfold tumbref2_DateFor at h
 replace S := S.nk [] [(0, iV Aw)] [] rfl ⟨rfl, trivial⟩
 refine Fs (Fg (l_alloc S Tryz.zeroValue53 (cs := [iV 0, iV 0, iV 0]) rfl rfl ?_));clear S;intro a w1 b1 hz1 hk1 S
 refine Ld (Tn (Fs (Fg (l_enter S (fun _ => run_call (vs := []) trivial Tryz.call54) (tumbref2_pastDate_ok _ _ rfl) rfl ?_))));clear S;intro v1 a w2 hv1 hk2 hn1 S
 subst hv1
 refine l_alloc S Tryz.zeroValue53 (cs := [iV 0, iV 0, iV 0]) rfl rfl ?_;clear S;intro a w3 b2 hz2 hk3 S
 refine l_store S (S.tm rfl) (S.tm rfl) (i := 0) (off := 0) rfl Tryz.sizeOf53 (vs := (GDate.enc tumbref2_pastDate)) rfl rfl rfl rfl ?_;clear S;intro w4 hk4 S
 refine lv S (Ra rfl) rfl ?_;clear S;intro a S
 refine Ld (Tn (Fs ?_))
 replace S := S.nk [.blk b2 (GDate.enc tumbref2_pastDate) 53, .blk b1 [iV 0, iV 0, iV 0] 53] [(0, iV Aw), (2, .pointer (some ⟨b1, 0, none⟩)), (3, .pointer (some ⟨b2, 0, none⟩)), (4, iV (-40000))] [true, true] rfl (subR rfl)
 obtain ⟨j1, hj1, h⟩ := joinE h
 refine f_join (fun a w' => ∃ x1 : Int, ∃ x2 : Int, ∃ x3 : Int, j1 x1 x2 x3 = some r ∧ Sx w [] nov [.blk b2 [iV x1, iV x2, iV x3] 53, .blk b1 [iV 0, iV 0, iV 0] 53] [(2, .pointer (some ⟨b1, 0, none⟩)), (3, .pointer (some ⟨b2, 0, none⟩))] 46 a w') ?_ ?_
 ·refine wp_block (f_loop (fun (m1 : Nat) a w' => ∃ x1 : Int, ∃ x2 : Int, ∃ x3 : Int, ∃ x4 : Int, tumbref2_DateFor_l1 Aw j1 m1 x1 x2 x3 x4 = some r ∧ Sx w [] nov [.blk b2 [iV x1, iV x2, iV x3] 53, .blk b1 [iV 0, iV 0, iV 0] 53] [(0, iV Aw), (2, .pointer (some ⟨b1, 0, none⟩)), (3, .pointer (some ⟨b2, 0, none⟩)), (4, iV x4)] 46 a w') id ((Aw - (-40000)).toNat + 2) ⟨tumbref2_pastDate.Year, tumbref2_pastDate.Month, tumbref2_pastDate.Day, (-40000), h, S.nf [true, true] rfl (subR rfl)⟩ ?_)
  clear S h;rintro m1 a w5 ⟨x1, x2, x3, x4, h, S⟩
  cases m1 with
  | zero => rw [tumbref2_DateFor_l1.eq_1] at h;cases h
  | succ m1 =>
   rw [tumbref2_DateFor_l1.eq_2] at h
   refine Fs (Fs (Fg (lv S (Rm (S.tm rfl)) rfl ?_)));clear S;intro a S
   refine lv S (Rm (S.tm rfl)) rfl ?_;clear S;intro a S
   refine lv S (rn_lss (S.tm rfl) (S.tm rfl)) rfl ?_;clear S;intro a S
   refine Ld (Tn (f_cond (S.tm rfl) (fun hb1 => ?_) (fun hb1 => ?_)))
   ·replace h := iteT h hb1
    refine wp_skip (Tn (wp_block (Fs (Fs ?_))))
    obtain ⟨r1, hr1, h⟩ := bindE h
    refine d_region [] ([]) Tryz.mixed S rfl (by kernel_rfl) ?_;clear S;intro w8 hk6 hsel S
    refine d_quiet 0 S hsel rfl rfl rfl (by kernel_rfl) (by kernel_rfl) rfl (fun _ hw => (rn_fld fa_53_0 (S.tm rfl))) ?_;clear S;intro a S
    refine d_quiet 1 S hsel rfl rfl rfl (by kernel_rfl) (by kernel_rfl) rfl (fun _ hw => (rn_ld Tryz.isAgg3 (off := 0) (o := 0) (S.tm rfl) ((S.blk_mem (i := 0) (cells := [iV x1, iV x2, iV x3]) (b := b2) (T := 53) rfl (ne_nil (e' := .blk b2 [iV x1, iV x2, iV x3] 53))).kept hw) rfl)) ?_;clear S;intro a S
    refine d_quiet 2 S hsel rfl rfl rfl (by kernel_rfl) (by kernel_rfl) rfl (fun _ hw => (rn_fld fa_53_1 (S.tm rfl))) ?_;clear S;intro a S
    refine d_quiet 3 S hsel rfl rfl rfl (by kernel_rfl) (by kernel_rfl) rfl (fun _ hw => (rn_ld Tryz.isAgg3 (off := 0) (o := 1) (S.tm rfl) ((S.blk_mem (i := 0) (cells := [iV x1, iV x2, iV x3]) (b := b2) (T := 53) rfl (ne_nil (e' := .blk b2 [iV x1, iV x2, iV x3] 53))).kept hw) rfl)) ?_;clear S;intro a S
    refine d_quiet 5 S hsel rfl rfl rfl (by kernel_rfl) (by kernel_rfl) rfl (fun _ hw => (rn_fld fa_53_2 (S.tm rfl))) ?_;clear S;intro a S
    refine d_quiet 6 S hsel rfl rfl rfl (by kernel_rfl) (by kernel_rfl) rfl (fun _ hw => (rn_ld Tryz.isAgg3 (off := 0) (o := 2) (S.tm rfl) ((S.blk_mem (i := 0) (cells := [iV x1, iV x2, iV x3]) (b := b2) (T := 53) rfl (ne_nil (e' := .blk b2 [iV x1, iV x2, iV x3] 53))).kept hw) rfl)) ?_;clear S;intro a S
    refine d_loud1 4 (by kernel_rfl) rfl (l_enter S (fun _ => run_call (vs := [iV x1, iV x2]) ⟨(S.tm rfl), (S.tm rfl), trivial⟩ Tryz.call55) (tumbref2_monthLong_ok _ x1 x2 _ hr1) rfl ?_);clear S;intro v3 a w9 hv3 hk7 hn3 S
    subst hv3
    refine Ld (d_next hk7 (d_rest [7, 8] hsel (by kernel_rfl) rfl ?_))
    clear hsel
    refine s_lv S rfl (rn_sub (S.tm rfl) (S.tm rfl)) rfl ?_;clear S;intro a S
    refine s_lv S rfl (Ra (S.tm rfl)) rfl ?_;clear S;intro a S
    refine s_done ?_
    replace S := S.nk [.blk b2 [iV x1, iV x2, iV x3] 53, .blk b1 [iV 0, iV 0, iV 0] 53] [(0, iV Aw), (2, .pointer (some ⟨b1, 0, none⟩)), (3, .pointer (some ⟨b2, 0, none⟩)), (4, iV x4), (5, iV (W (r1 - x3)))] [true, true] rfl (subR rfl)
    refine Tn (Fs (Fg (lv S (Rm (S.tm rfl)) rfl ?_)));clear S;intro a S
    refine lv S (Rm (S.tm rfl)) rfl ?_;clear S;intro a S
    refine lv S (rn_add (S.tm rfl) (S.tm rfl)) rfl ?_;clear S;intro a S
    refine lv S (rn_add (S.tm rfl) rfl) rfl ?_;clear S;intro a S
    refine lv S (Rm (S.tm rfl)) rfl ?_;clear S;intro a S
    refine lv S (rn_leq (S.tm rfl) (S.tm rfl)) rfl ?_;clear S;intro a S
    refine Ld (Tn ?_)
    obtain ⟨j2, hj2, h⟩ := joinE h
    refine f_join (fun a w' => ∃ x5 : Int, ∃ x6 : Int, j2 x5 x6 = some r ∧ Sx w [] nov [.blk b2 [iV x1, iV x2, iV x5] 53, .blk b1 [iV 0, iV 0, iV 0] 53] [(0, iV Aw), (2, .pointer (some ⟨b1, 0, none⟩)), (3, .pointer (some ⟨b2, 0, none⟩)), (4, iV x6)] 46 a w') ?_ ?_
    ·refine f_cond (S.tm rfl) (fun hb2 => ?_) (fun hb2 => ?_)
     ·replace h := iteT h hb2
      refine Fs (Fg (lv S (Rm (S.tm rfl)) rfl ?_));clear S;intro a S
      refine lv S (Rm (S.tm rfl)) rfl ?_;clear S;intro a S
      refine lv S (rn_add (S.tm rfl) rfl) rfl ?_;clear S;intro a S
      refine lv S (rn_add (S.tm rfl) (S.tm rfl)) rfl ?_;clear S;intro a S
      refine lv S (Ra (S.tm rfl)) rfl ?_;clear S;intro a S
      refine Ld ?_
      replace S := S.nk [.blk b2 [iV x1, iV x2, iV x3] 53, .blk b1 [iV 0, iV 0, iV 0] 53] [(0, iV Aw), (2, .pointer (some ⟨b1, 0, none⟩)), (3, .pointer (some ⟨b2, 0, none⟩)), (4, iV (W (x4 + (W ((W (r1 - x3)) + 1)))))] [true, true] rfl (subR rfl)
      refine Tn (Fg (lv S (rn_fld fa_53_0 (S.tm rfl)) rfl ?_));clear S;intro a S
      refine lv S (rn_load Tryz.isAgg3 (S.tm rfl) (S.cell (i := 0) rfl rfl)) rfl ?_;clear S;intro a S
      refine lv S (rn_fld fa_53_1 (S.tm rfl)) rfl ?_;clear S;intro a S
      refine lv S (rn_load Tryz.isAgg3 (S.tm rfl) (S.cell (i := 0) rfl rfl)) rfl ?_;clear S;intro a S
      obtain ⟨r2, hr2, h⟩ := bindE h
      refine l_enter S (fun _ => run_call (vs := [iV x1, iV x2]) ⟨(S.tm rfl), (S.tm rfl), trivial⟩ Tryz.call55) (tumbref2_monthLong_ok _ x1 x2 _ hr2) rfl ?_;clear S;intro v4 a w11 hv4 hk8 hn4 S
      subst hv4
      refine lv S (rn_fld fa_53_2 (S.tm rfl)) rfl ?_;clear S;intro a S
      refine l_store S (S.tm rfl) (S.tm rfl) (i := 0) (off := 2) rfl Tryz.sizeOf3 (vs := [iV r2]) rfl rfl rfl rfl ?_;clear S;intro w12 hk9 S
      refine Ld (Tn ?_)
      exact ⟨r2, W (x4 + (W ((W (r1 - x3)) + 1))), h, S.nf [true, true] rfl (subR rfl)⟩
     ·replace h := iteF h hb2
      refine Fs (Fg (lv S (rn_fld fa_53_2 (S.tm rfl)) rfl ?_));clear S;intro a S
      refine lv S (rn_load Tryz.isAgg3 (S.tm rfl) (S.cell (i := 0) rfl rfl)) rfl ?_;clear S;intro a S
      refine lv S (Rm (S.tm rfl)) rfl ?_;clear S;intro a S
      refine lv S (Rm (S.tm rfl)) rfl ?_;clear S;intro a S
      refine lv S (rn_sub (S.tm rfl) (S.tm rfl)) rfl ?_;clear S;intro a S
      refine lv S (rn_sub (S.tm rfl) rfl) rfl ?_;clear S;intro a S
      refine lv S (rn_add (S.tm rfl) (S.tm rfl)) rfl ?_;clear S;intro a S
      refine lv S (rn_fld fa_53_2 (S.tm rfl)) rfl ?_;clear S;intro a S
      refine l_store S (S.tm rfl) (S.tm rfl) (i := 0) (off := 2) rfl Tryz.sizeOf3 (vs := [iV (W (x3 + (W ((W (Aw - x4)) - 1))))]) rfl rfl rfl rfl ?_;clear S;intro w13 hk10 S
      refine Ld ?_
      replace S := S.nk [.blk b2 [iV x1, iV x2, iV (W (x3 + (W ((W (Aw - x4)) - 1))))] 53, .blk b1 [iV 0, iV 0, iV 0] 53] [(0, iV Aw), (2, .pointer (some ⟨b1, 0, none⟩)), (3, .pointer (some ⟨b2, 0, none⟩))] [true, true] rfl (subR rfl)
      refine Tn (Fg (lv S (Rm (S.tm rfl)) rfl ?_));clear S;intro a S
      refine lv S (Ra (S.tm rfl)) rfl ?_;clear S;intro a S
      refine Ld (Tn ?_)
      exact ⟨W (x3 + (W ((W (Aw - x4)) - 1))), Aw, h, S.nf [true, true] rfl (subR rfl)⟩
    clear S h;rintro a w10 ⟨x5, x6, h, S⟩;rw [hj2] at h;clear hj2 j2
    refine Tn (Fg (lv S (rn_ldA Tryz.isAgg53 Tryz.sizeOf53 (off := 0) (o := 0) (part := [iV x1, iV x2, iV x5]) rfl rfl (S.tm rfl) (S.cellsAt (i := 0) rfl)) rfl ?_));clear S;intro a S
    obtain ⟨r3, hr3, h⟩ := bindE h
    refine l_enter S (fun _ => run_call (vs := [.agg (GDate.enc (GDate.mk x1 x2 x5)).toArray]) ⟨(S.tm rfl), trivial⟩ Tryz.call56) (tumbref2_next_ok _ (GDate.mk x1 x2 x5) _ hr3) rfl ?_;clear S;intro v5 a w14 hv5 hk11 hn5 S
    subst hv5
    refine l_store S (S.tm rfl) (S.tm rfl) (i := 0) (off := 0) rfl Tryz.sizeOf53 (vs := (GDate.enc r3)) rfl rfl rfl rfl ?_;clear S;intro w15 hk12 S
    refine Ld (blk_n (Tn ?_))
    exact ⟨m1, ⟨r3.Year, r3.Month, r3.Day, x6, h, S.nf [true, true] rfl ⟨rfl, rfl, rfl, rfl, trivial⟩⟩, Nat.lt_succ_self _⟩
   ·replace h := iteF h hb1
    refine wp_exit (then_x (then_x (x_same (Tn ?_))))
    exact ⟨x1, x2, x3, h, S.nf [true, true] rfl (subR rfl)⟩
 clear S h;rintro a w6 ⟨x1, x2, x3, h, S⟩;rw [hj1] at h;clear hj1 j1
 refine Tn (Fs (Fg (lv S (rn_ldA Tryz.isAgg53 Tryz.sizeOf53 (off := 0) (o := 0) (part := [iV x1, iV x2, iV x3]) rfl rfl (S.tm rfl) (S.cellsAt (i := 0) rfl)) rfl ?_)));clear S;intro a S
 refine l_store S (S.tm rfl) (S.tm rfl) (i := 1) (off := 0) rfl Tryz.sizeOf53 (vs := [iV x1, iV x2, iV x3]) rfl rfl rfl rfl ?_;clear S;intro w16 hk13 S
 refine Ld (Tn (wp_ret ?_))
 obtain rfl := Option.some.inj h
 exact f_retG S (rs := [.cell 2 53]) (vs := [.agg #[iV x1, iV x2, iV x3]]) Tryz.results29 ⟨(res_cell (off := 0) S rfl Tryz.isAgg53 Tryz.sizeOf53 rfl (S.cellsAt (i := 1) rfl)), trivial⟩ rfl rfl
theorem strconv_Itoa_ok (w : World) (n : Int) (hg_pow10 : Glob (view w []) 3 pow10Cells) (r : ByteArray) (h : strconv_Itoa n = some r) : Calls Tryz.prog 52 [iV n].toArray w (Ret w [] fun _ v _ => v = .string r) := by
  unfold strconv_Itoa at h
  obtain ⟨hc, h⟩ := chkE h
  simp only [Bool.and_eq_true, decide_eq_true_eq] at hc
  obtain rfl := Option.some.inj h
  exact ret_of_grow (Any.strconv_Itoa Tryz.lays171 n hc.1 hc.2 w (hg_pow10.tab (by kernel_rfl)))
theorem strings_Repeat_ok (w : World) (s : ByteArray) (c : Int) (r : ByteArray) (h : strings_Repeat s c = some r) : Calls Tryz.prog 53 [sV s, iV c].toArray w (Ret w [] fun _ v _ => v = .string r) := by
  unfold strings_Repeat at h
  obtain ⟨hc, h⟩ := chkE h
  simp only [Bool.and_eq_true, decide_eq_true_eq] at hc
  obtain rfl := Option.some.inj h
  exact repeat_ret Tryz.lays105 Tryz.bx105 s c w hc.1.1 hc.1.2 hc.2
theorem tumbref2_padded_ok (w : World) (Al : Int) (Bc : Int) (hg_pow10 : Glob (view w []) 3 pow10Cells) (r : ByteArray) (h : tumbref2_padded Al Bc = some r) :
    Calls Tryz.prog 30 [iV Al, iV Bc].toArray w (Ret w [] fun _ v _ => v = sV r) := by
 refine f_enter [] [] Tryz.func30 rfl Tryz.ntmps30 rfl (by simp) (by simp [fps]) (by simp [fps]) fun a S => ?_
 unfold tumbref2_padded at h
 replace S := S.nk [] [(0, iV Al), (1, iV Bc)] [] rfl (subR rfl)
 refine Fs (Fg (lv S (Ra rfl) rfl ?_));clear S;intro a S
 refine Ld (Tn (Fs (Fg (lv S (Rm (S.tm rfl)) rfl ?_))));clear S;intro a S
 refine lv S (Rm (S.tm rfl)) rfl ?_;clear S;intro a S
 obtain ⟨r1, hr1, h⟩ := bindE h
 refine l_enter S (fun _ => run_call (vs := [iV Al]) ⟨(S.tm rfl), trivial⟩ Tryz.call52) (strconv_Itoa_ok _ Al (hg_pow10.mono (S.le_arg nil_sub)) _ hr1) rfl ?_;clear S;intro v1 a w1 hv1 hk1 hn1 S
 subst hv1
 refine lv S (rn_len_str Tryz.underlying9 (S.tm rfl)) rfl ?_;clear S;intro a S
 refine lv S (rn_sub (S.tm rfl) (S.tm rfl)) rfl ?_;clear S;intro a S
 refine lv S (rn_max2 rfl (S.tm rfl)) rfl ?_;clear S;intro a S
 obtain ⟨r2, hr2, h⟩ := bindE h
 refine l_enter S (fun _ => run_call (vs := [sV k_0, iV (imax 0 (W (Bc - (r1.size : Int))))]) ⟨rfl, (S.tm rfl), trivial⟩ Tryz.call53) (strings_Repeat_ok _ k_0 (imax 0 (W (Bc - (r1.size : Int)))) _ hr2) rfl ?_;clear S;intro v2 a w2 hv2 hk2 hn2 S
 subst hv2
 refine lv S (Rm (S.tm rfl)) rfl ?_;clear S;intro a S
 obtain ⟨r3, hr3, h⟩ := bindE h
 refine l_enter S (fun _ => run_call (vs := [iV Al]) ⟨(S.tm rfl), trivial⟩ Tryz.call52) (strconv_Itoa_ok _ Al (hg_pow10.mono (S.le_arg nil_sub)) _ hr3) rfl ?_;clear S;intro v3 a w3 hv3 hk3 hn3 S
 subst hv3
 obtain ⟨hc1, h⟩ := chkE h
 refine lv S (rn_sadd (m := r2) (n := r3) (S.tm rfl) (S.tm rfl) (by have := room_lt hc1;omega)) rfl ?_;clear S;intro a S
 refine lv S (Ra (S.tm rfl)) rfl ?_;clear S;intro a S
 refine Ld (Tn (wp_ret ?_))
 obtain rfl := Option.some.inj h
 exact f_ret S Tryz.results30 rfl rfl
set_option maxRecDepth 20000 in
theorem tumbref2_SwimmerLines_ok (w : World) (Ae : Value) (Aj : List GSwimmer) (Ao : Slc (view w []) 3 Ae (Aj.map GSwimmer.enc)) (hg_pow10 : Glob (view w []) 3 pow10Cells) (r : ByteArray) (h : tumbref2_SwimmerLines Aj = some r) :
    Calls Tryz.prog 8 [Ae].toArray w (Ret w [] fun _ v _ => v = sV r) := by
 refine f_enter [] [] Tryz.func8 rfl Tryz.ntmps8 rfl (by simp) (by simp [fps]) (by simp [fps]) fun a S => ?_
 unfold tumbref2_SwimmerLines at h
 replace S := S.nk [] [(0, Ae)] [] rfl ⟨rfl, trivial⟩
 refine Fs (Fg (lv S (Ra rfl) rfl ?_));clear S;intro a S
 refine Ld (Tn (Fs (Fg (lv S (Ra rfl) rfl ?_))));clear S;intro a S
 refine Ld (Tn (Fs (Fs (Fg (lv S (Rm (S.tm rfl)) rfl ?_)))));clear S;intro a S
 refine lv S (rn_lenT sl_26 (S.tm rfl) (slc_len Ao)) rfl ?_;clear S;intro a S
 refine lv S (Rm rfl) rfl ?_;clear S;intro a S
 refine Ld (Tn ?_)
 replace S := S.nk [] [(3, sV k_empty), (7, Ae), (8, iV (Aj.length : Int)), (9, iV 0)] [] rfl (subR rfl)
 obtain ⟨j1, hj1, h⟩ := joinE h
 refine f_join (fun a w' => ∃ x1 : ByteArray, j1 x1 = some r ∧ Sx w [] nov [] [(3, sV x1)] 46 a w') ?_ ?_
 ·refine wp_block (f_loop (fun (ys1 : List GSwimmer) a w' => ∃ i1 : Nat, ∃ x1 : ByteArray, (∃ dn, Aj = dn ++ ys1 ∧ dn.length = i1) ∧ tumbref2_SwimmerLines_l1 j1 ys1 i1 x1 = some r ∧ Sx w [] nov [] [(3, sV x1), (7, Ae), (8, iV (Aj.length : Int)), (9, iV (i1 : Int))] 46 a w') List.length Aj ⟨0, k_empty, ⟨[], rfl, rfl⟩, h, S.nf [] rfl (subR rfl)⟩ ?_)
  clear S h;rintro ys1 a w1 ⟨i1, x1, ⟨dn, hd1, hi1⟩, h, S⟩
  cases ys1 with
  | nil =>
   rw [tumbref2_SwimmerLines_l1.eq_1] at h
   refine Fs (Fg (lv S (rn_lss (S.tm rfl) (S.tm rfl)) rfl ?_));clear S;intro a S
   refine Ld ?_
   replace S := S.nk [] [(3, sV x1), (7, Ae), (8, iV (Aj.length : Int)), (9, iV (i1 : Int)), (10, bV (decide ((i1 : Int) < (Aj.length : Int))))] [] rfl (subR rfl)
   refine Tn (Fs (wp_cond_false ((S.tm rfl).trans (congrArg Value.bool (rng_nil hd1 hi1))) (wp_exit (then_x (then_x (x_same ?_))))))
   refine Tn ?_
   exact ⟨x1, h, S.nf [] rfl ⟨rfl, trivial⟩⟩
  | cons y1 ys1 =>
   rw [tumbref2_SwimmerLines_l1.eq_2] at h
   refine Fs (Fg (lv S (rn_lss (S.tm rfl) (S.tm rfl)) rfl ?_));clear S;intro a S
   refine Ld ?_
   replace S := S.nk [] [(3, sV x1), (7, Ae), (8, iV (Aj.length : Int)), (9, iV (i1 : Int)), (10, bV (decide ((i1 : Int) < (Aj.length : Int))))] [] rfl (subR rfl)
   refine Tn (Fs (wp_cond_true ((S.tm rfl).trans (congrArg Value.bool (rng_cons hd1 hi1))) (wp_skip (Tn (Fs (wp_block ?_))))))
   refine Fs (Fg ?_)
   obtain ⟨b1, o1, hm1, hr1⟩ := rn_indexT (a := a) (x := .tmp 7) (y := .tmp 9) (ty := 0) sl_26 Ao (get_mid hd1 hi1) rfl (S.tm rfl) (S.tm rfl)
   refine lv S (hr1 _) rfl ?_;clear S;intro a S
   clear hr1
   refine lv S (rn_ldA Tryz.isAgg38 Tryz.sizeOf38 (off := o1) (o := 0) (part := (GSwimmer.enc y1)) rfl rfl (S.tm rfl) (hm1.at S.emb0)) rfl ?_;clear S;intro a S
   refine l_alloc S Tryz.zeroValue38 (cs := [sV k_empty, iV 0, iV 0]) rfl rfl ?_;clear S;intro a w3 b2 hz1 hk1 S
   refine l_store S (S.tm rfl) (S.tm rfl) (i := 0) (off := 0) rfl Tryz.sizeOf38 (vs := (GSwimmer.enc y1)) rfl rfl rfl rfl ?_;clear S;intro w4 hk2 S
   refine Ld (Tn (Fs (Fg (lv S (rn_fld fa_38_2 (S.tm rfl)) rfl ?_))));clear S;intro a S
   refine lv S (rn_load Tryz.isAgg3 (S.tm rfl) (S.cell (i := 0) rfl rfl)) rfl ?_;clear S;intro a S
   obtain ⟨r1, hr2, h⟩ := bindE h
   refine l_enter S (fun _ => run_call (vs := [iV y1.Born]) ⟨(S.tm rfl), trivial⟩ Tryz.call29) (tumbref2_DateFor_ok _ y1.Born _ hr2) rfl ?_;clear S;intro v1 a w5 hv1 hk3 hn1 S
   subst hv1
   refine l_alloc S Tryz.zeroValue53 (cs := [iV 0, iV 0, iV 0]) rfl rfl ?_;clear S;intro a w6 b3 hz2 hk4 S
   refine l_store S (S.tm rfl) (S.tm rfl) (i := 0) (off := 0) rfl Tryz.sizeOf53 (vs := (GDate.enc r1)) rfl rfl rfl rfl ?_;clear S;intro w7 hk5 S
   refine Ld (Tn ?_)
   obtain ⟨hc1, h⟩ := chkE h
   obtain ⟨hc2, h⟩ := chkE h
   obtain ⟨hc3, h⟩ := chkE h
   obtain ⟨hc4, h⟩ := chkE h
   obtain ⟨r2, hr3, h⟩ := bindE h
   obtain ⟨hc5, h⟩ := chkE h
   obtain ⟨hc6, h⟩ := chkE h
   obtain ⟨r3, hr4, h⟩ := bindE h
   obtain ⟨hc7, h⟩ := chkE h
   obtain ⟨hc8, h⟩ := chkE h
   obtain ⟨r4, hr5, h⟩ := bindE h
   refine d_region [] ([]) Tryz.mixed S rfl (by kernel_rfl) ?_;clear S;intro w11 hk9 hsel S
   refine d_quiet 0 S hsel rfl rfl rfl (by kernel_rfl) (by kernel_rfl) rfl (fun _ hw => (Rm (S.tm rfl))) ?_;clear S;intro a S
   refine d_quiet 1 S hsel rfl rfl rfl (by kernel_rfl) (by kernel_rfl) rfl (fun _ hw => (rn_fld fa_38_0 (S.tm rfl))) ?_;clear S;intro a S
   refine d_quiet 2 S hsel rfl rfl rfl (by kernel_rfl) (by kernel_rfl) rfl (fun _ hw => (rn_ld Tryz.isAgg9 (off := 0) (o := 0) (S.tm rfl) ((S.blk_mem (i := 1) (cells := (GSwimmer.enc y1)) (b := b2) (T := 38) rfl (ne_nil (e' := .blk b2 (GSwimmer.enc y1) 38))).kept hw) rfl)) ?_;clear S;intro a S
   refine d_quiet 3 S hsel rfl rfl rfl (by kernel_rfl) (by kernel_rfl) rfl (fun _ hw => (rn_sadd (m := y1.Key) (n := k__20) (S.tm rfl) rfl (by have := room_lt hc1;omega))) ?_;clear S;intro a S
   refine d_quiet 4 S hsel rfl rfl rfl (by kernel_rfl) (by kernel_rfl) rfl (fun _ hw => (rn_fld fa_38_1 (S.tm rfl))) ?_;clear S;intro a S
   refine d_quiet 5 S hsel rfl rfl rfl (by kernel_rfl) (by kernel_rfl) rfl (fun _ hw => (rn_ld Tryz.isAgg3 (off := 0) (o := 1) (S.tm rfl) ((S.blk_mem (i := 1) (cells := (GSwimmer.enc y1)) (b := b2) (T := 38) rfl (ne_nil (e' := .blk b2 (GSwimmer.enc y1) 38))).kept hw) rfl)) ?_;clear S;intro a S
   refine d_quiet 6 S hsel rfl rfl rfl (by kernel_rfl) (by kernel_rfl) rfl (fun _ hw => (rn_fld fa_38_1 (S.tm rfl))) ?_;clear S;intro a S
   refine d_quiet 7 S hsel rfl rfl rfl (by kernel_rfl) (by kernel_rfl) rfl (fun _ hw => (rn_ld Tryz.isAgg3 (off := 0) (o := 1) (S.tm rfl) ((S.blk_mem (i := 1) (cells := (GSwimmer.enc y1)) (b := b2) (T := 38) rfl (ne_nil (e' := .blk b2 (GSwimmer.enc y1) 38))).kept hw) rfl)) ?_;clear S;intro a S
   refine d_quiet 8 S hsel rfl rfl rfl (by kernel_rfl) (by kernel_rfl) rfl (fun _ hw => (rn_add (S.tm rfl) rfl)) ?_;clear S;intro a S
   refine d_quiet 9 S hsel rfl rfl rfl (by kernel_rfl) (by kernel_rfl) rfl (fun _ hw => (rn_scutT2 Tryz.underlying9 rfl (S.tm rfl) (S.tm rfl) hc2)) ?_;clear S;intro a S
   refine d_quiet 10 S hsel rfl rfl rfl (by kernel_rfl) (by kernel_rfl) rfl (fun _ hw => (rn_sadd (m := (y1.Key ++ k__20)) (n := (scut k__20fm y1.Sex (W (y1.Sex + 1)))) (S.tm rfl) (S.tm rfl) (by have := room_lt hc3;omega))) ?_;clear S;intro a S
   refine d_quiet 11 S hsel rfl rfl rfl (by kernel_rfl) (by kernel_rfl) rfl (fun _ hw => (rn_sadd (m := ((y1.Key ++ k__20) ++ (scut k__20fm y1.Sex (W (y1.Sex + 1))))) (n := k__20) (S.tm rfl) rfl (by have := room_lt hc4;omega))) ?_;clear S;intro a S
   refine d_quiet 12 S hsel rfl rfl rfl (by kernel_rfl) (by kernel_rfl) rfl (fun _ hw => (rn_fld fa_53_0 (S.tm rfl))) ?_;clear S;intro a S
   refine d_quiet 13 S hsel rfl rfl rfl (by kernel_rfl) (by kernel_rfl) rfl (fun _ hw => (rn_ld Tryz.isAgg3 (off := 0) (o := 0) (S.tm rfl) ((S.blk_mem (i := 0) (cells := (GDate.enc r1)) (b := b3) (T := 53) rfl (ne_nil (e' := .blk b3 (GDate.enc r1) 53))).kept hw) rfl)) ?_;clear S;intro a S
   refine d_quiet 17 S hsel rfl rfl rfl (by kernel_rfl) (by kernel_rfl) rfl (fun _ hw => (rn_fld fa_53_1 (S.tm rfl))) ?_;clear S;intro a S
   refine d_quiet 18 S hsel rfl rfl rfl (by kernel_rfl) (by kernel_rfl) rfl (fun _ hw => (rn_ld Tryz.isAgg3 (off := 0) (o := 1) (S.tm rfl) ((S.blk_mem (i := 0) (cells := (GDate.enc r1)) (b := b3) (T := 53) rfl (ne_nil (e' := .blk b3 (GDate.enc r1) 53))).kept hw) rfl)) ?_;clear S;intro a S
   refine d_quiet 22 S hsel rfl rfl rfl (by kernel_rfl) (by kernel_rfl) rfl (fun _ hw => (rn_fld fa_53_2 (S.tm rfl))) ?_;clear S;intro a S
   refine d_quiet 23 S hsel rfl rfl rfl (by kernel_rfl) (by kernel_rfl) rfl (fun _ hw => (rn_ld Tryz.isAgg3 (off := 0) (o := 2) (S.tm rfl) ((S.blk_mem (i := 0) (cells := (GDate.enc r1)) (b := b3) (T := 53) rfl (ne_nil (e' := .blk b3 (GDate.enc r1) 53))).kept hw) rfl)) ?_;clear S;intro a S
   refine d_loud1 14 (by kernel_rfl) rfl (l_enter S (fun _ => run_call (vs := [iV r1.Year, iV 4]) ⟨(S.tm rfl), rfl, trivial⟩ Tryz.call30) (tumbref2_padded_ok _ r1.Year 4 (hg_pow10.mono (S.le_arg nil_sub)) _ hr3) rfl ?_);clear S;intro v5 a w12 hv5 hk10 hn5 S
   subst hv5
   refine Ld (d_next hk10 ?_)
   refine d_quiet 15 S hsel rfl rfl rfl (by kernel_rfl) (by kernel_rfl) rfl (fun _ hw => (rn_sadd (m := (((y1.Key ++ k__20) ++ (scut k__20fm y1.Sex (W (y1.Sex + 1)))) ++ k__20)) (n := r2) (S.tm rfl) (S.tm rfl) (by have := room_lt hc5;omega))) ?_;clear S;intro a S
   refine d_quiet 16 S hsel rfl rfl rfl (by kernel_rfl) (by kernel_rfl) rfl (fun _ hw => (rn_sadd (m := ((((y1.Key ++ k__20) ++ (scut k__20fm y1.Sex (W (y1.Sex + 1)))) ++ k__20) ++ r2)) (n := k__2d) (S.tm rfl) rfl (by have := room_lt hc6;omega))) ?_;clear S;intro a S
   refine d_loud1 19 (by kernel_rfl) rfl (l_enter S (fun _ => run_call (vs := [iV r1.Month, iV 2]) ⟨(S.tm rfl), rfl, trivial⟩ Tryz.call30) (tumbref2_padded_ok _ r1.Month 2 (hg_pow10.mono (S.le_arg nil_sub)) _ hr4) rfl ?_);clear S;intro v6 a w13 hv6 hk11 hn6 S
   subst hv6
   refine Ld (d_next hk11 ?_)
   refine d_quiet 20 S hsel rfl rfl rfl (by kernel_rfl) (by kernel_rfl) rfl (fun _ hw => (rn_sadd (m := (((((y1.Key ++ k__20) ++ (scut k__20fm y1.Sex (W (y1.Sex + 1)))) ++ k__20) ++ r2) ++ k__2d)) (n := r3) (S.tm rfl) (S.tm rfl) (by have := room_lt hc7;omega))) ?_;clear S;intro a S
   refine d_quiet 21 S hsel rfl rfl rfl (by kernel_rfl) (by kernel_rfl) rfl (fun _ hw => (rn_sadd (m := ((((((y1.Key ++ k__20) ++ (scut k__20fm y1.Sex (W (y1.Sex + 1)))) ++ k__20) ++ r2) ++ k__2d) ++ r3)) (n := k__2d) (S.tm rfl) rfl (by have := room_lt hc8;omega))) ?_;clear S;intro a S
   refine d_loud1 24 (by kernel_rfl) rfl (l_enter S (fun _ => run_call (vs := [iV r1.Day, iV 2]) ⟨(S.tm rfl), rfl, trivial⟩ Tryz.call30) (tumbref2_padded_ok _ r1.Day 2 (hg_pow10.mono (S.le_arg nil_sub)) _ hr5) rfl ?_);clear S;intro v7 a w14 hv7 hk12 hn7 S
   subst hv7
   refine Ld (d_next hk12 (d_rest [25, 26, 27, 28] hsel (by kernel_rfl) rfl ?_))
   clear hsel
   obtain ⟨hc9, h⟩ := chkE h
   refine s_lv S rfl (rn_sadd (m := (((((((y1.Key ++ k__20) ++ (scut k__20fm y1.Sex (W (y1.Sex + 1)))) ++ k__20) ++ r2) ++ k__2d) ++ r3) ++ k__2d)) (n := r4) (S.tm rfl) (S.tm rfl) (by have := room_lt hc9;omega)) rfl ?_;clear S;intro a S
   obtain ⟨hc10, h⟩ := chkE h
   refine s_lv S rfl (rn_sadd (m := ((((((((y1.Key ++ k__20) ++ (scut k__20fm y1.Sex (W (y1.Sex + 1)))) ++ k__20) ++ r2) ++ k__2d) ++ r3) ++ k__2d) ++ r4)) (n := k__0a) (S.tm rfl) rfl (by have := room_lt hc10;omega)) rfl ?_;clear S;intro a S
   obtain ⟨hc11, h⟩ := chkE h
   refine s_lv S rfl (rn_sadd (m := x1) (n := (((((((((y1.Key ++ k__20) ++ (scut k__20fm y1.Sex (W (y1.Sex + 1)))) ++ k__20) ++ r2) ++ k__2d) ++ r3) ++ k__2d) ++ r4) ++ k__0a)) (S.tm rfl) (S.tm rfl) (by have := room_lt hc11;omega)) rfl ?_;clear S;intro a S
   refine s_lv S rfl (Ra (S.tm rfl)) rfl ?_;clear S;intro a S
   refine s_done ?_
   replace S := S.nk [] [(3, sV (x1 ++ (((((((((y1.Key ++ k__20) ++ (scut k__20fm y1.Sex (W (y1.Sex + 1)))) ++ k__20) ++ r2) ++ k__2d) ++ r3) ++ k__2d) ++ r4) ++ k__0a))), (7, Ae), (8, iV (Aj.length : Int)), (9, iV (i1 : Int))] [false, false] rfl (subR rfl)
   refine blk_n (Tn (Fg (lv S (rn_add (S.tm rfl) rfl) rfl ?_)));clear S;intro a S
   refine lv S (Rm (S.tm rfl)) rfl ?_;clear S;intro a S
   refine Ld (Tn ?_)
   exact ⟨ys1, ⟨i1 + 1, x1 ++ (((((((((y1.Key ++ k__20) ++ (scut k__20fm y1.Sex (W (y1.Sex + 1)))) ++ k__20) ++ r2) ++ k__2d) ++ r3) ++ k__2d) ++ r4) ++ k__0a), ⟨_, (hd1).trans (List.append_cons _ _ _), by simp [hi1]⟩, h, S.nf [] rfl ⟨rfl, rfl, rfl, (congrArg (fun z => some (Value.int .i64 z)) (rng_next hd1 hi1 (slc_max Ao))), trivial⟩⟩, Nat.lt_succ_self _⟩
 clear S h;rintro a w2 ⟨x1, h, S⟩;rw [hj1] at h;clear hj1 j1
 refine Tn (Fs (Fg (lv S (Rm (S.tm rfl)) rfl ?_)));clear S;intro a S
 refine lv S (Ra (S.tm rfl)) rfl ?_;clear S;intro a S
 refine Ld (Tn (wp_ret ?_))
 obtain rfl := Option.some.inj h
 exact f_ret S Tryz.results8 rfl rfl
set_option maxRecDepth 20000 in
theorem Stream_Changed_ok (w : World) (O : Nat) (U : Value) (Af : List Int) (Ah : Slc (view w [O]) 1 U (Af.map eInt)) (Z : Int) (Ar : (LEnt.blk O [U, iV Z] 25).holds w) (Az : ByteArray) (Ay : ByteArray) (r : ByteArray × Int) (h : Stream_Changed Af Z Az Ay = some r) :
    Calls Tryz.prog 19 [.pointer (some ⟨O, 0, none⟩), sV Az, sV Ay].toArray w (Ret w [O] fun _ v w' => (LEnt.blk O [U, iV r.2] 25).holds w' ∧ v = sV r.1) := by
 refine f_enter [O] [.blk O [U, iV Z] 25] Tryz.func19 rfl Tryz.ntmps19 rfl (fun e he => by simp only [List.mem_singleton] at he;subst he;exact Ar) (by simp [fps, LEnt.fp]) (by simp [fps, LEnt.fp]) fun a S => ?_
 unfold Stream_Changed at h
 replace S := S.nk [.blk O [U, iV Z] 25] [(0, .pointer (some ⟨O, 0, none⟩)), (1, sV Az), (2, sV Ay)] [true] rfl (subR rfl)
 refine Fs (Fg (lv S (Ra rfl) rfl ?_));clear S;intro a S
 refine Ld (Tn (Fs (Fs (Fg (lv S (Rm (S.tm rfl)) rfl ?_)))));clear S;intro a S
 refine lv S (rn_seql (S.tm rfl) rfl) rfl ?_;clear S;intro a S
 refine lv S (Rm (S.tm rfl)) rfl ?_;clear S;intro a S
 refine f_cutm 3 (fun a w' => Keep [] w w' ∧ Sx w [O] nov [.blk O [U, iV Z] 25] [(0, .pointer (some ⟨O, 0, none⟩)), (1, sV Az), (2, sV Ay), (14, bV ((decide (Az = k_empty)) || (decide (Ay = k_empty))))] 63 a w') ?_ ?_
 ·rcases Bool.eq_false_or_eq_true (decide (Az = k_empty)) with hb1 | hb1
  ·refine l_skip S rfl rfl rfl (neq_t hb1) rfl ?_ rfl;clear S;intro a S
   refine l_skip S rfl rfl rfl (neq_t hb1) rfl ?_ rfl;clear S;intro a S
   refine lv S (rn_or_t (decide (Ay = k_empty)) hb1 (S.tm rfl) rfl) rfl ?_;clear S;intro a S
   refine Ld (Tn ?_)
   exact ⟨Keep.refl _ _, S.nf [true] rfl (subR rfl)⟩
  ·refine l_want S rfl rfl rfl hb1 (lv S (Rm (S.tm rfl)) rfl ?_);clear S;intro a S
   refine l_want S rfl rfl rfl hb1 (lv S (rn_seql (S.tm rfl) rfl) rfl ?_);clear S;intro a S
   refine lv S (rn_or_f hb1 (S.tm rfl) (S.tm rfl)) rfl ?_;clear S;intro a S
   refine Ld (Tn ?_)
   exact ⟨Keep.refl _ _, S.nf [true] rfl (subR rfl)⟩
 clear S;rintro a w1 ⟨hk1, S⟩
 refine Ld (Tn (f_cond (S.tm rfl) (fun hb2 => ?_) (fun hb2 => ?_)))
 ·replace h := iteT h hb2
  refine Fs (Fg (lv S (Rm (S.tm rfl)) rfl ?_));clear S;intro a S
  refine lv S (Ra (S.tm rfl)) rfl ?_;clear S;intro a S
  refine Ld (Tn (wp_ret (then_r ?_)))
  obtain rfl := Option.some.inj h
  exact f_ret S Tryz.results19 rfl ⟨(S.holds _ (List.mem_of_getElem? (i := 0) rfl)), rfl⟩
 ·replace h := iteF h hb2
  refine wp_skip (Tn (Fs (Fg (lv S (Rm (S.tm rfl)) rfl ?_))));clear S;intro a S
  refine lv S (Rm (S.tm rfl)) rfl ?_;clear S;intro a S
  refine lv S (rn_len_str Tryz.underlying9 (S.tm rfl)) rfl ?_;clear S;intro a S
  obtain ⟨r1, hr1, h⟩ := bindE h
  refine l_enter1 0 S (b := O) rfl rfl (fun _ => .blk O [U, iV r1.2] 25) (fun _ => run_call (vs := [.pointer (some ⟨O, 0, none⟩), iV (Az.size : Int)]) ⟨(S.tm rfl), (S.tm rfl), trivial⟩ Tryz.call15) (Stream_Next_ok _ O U Af (Ah.mono (S.le_arg (fp_sub (i := 0) (e := .blk O [U, iV Z] 25) rfl))) Z (S.holds _ (List.mem_of_getElem? (i := 0) rfl)) (Az.size : Int) _ hr1) rfl (fun _ _ _ h => ⟨h.1, fun _ hc => by cases hc;rfl⟩) ?_;clear S;intro v1 a w2 hv1 hk2 hn1 S
  replace hv1 := hv1.2
  subst hv1
  refine lv S (Ra (S.tm rfl)) rfl ?_;clear S;intro a S
  refine Ld (Tn (Fs (Fg (lv S (Rm (S.tm rfl)) rfl ?_))));clear S;intro a S
  refine lv S (Rm (S.tm rfl)) rfl ?_;clear S;intro a S
  refine lv S (Rm (S.tm rfl)) rfl ?_;clear S;intro a S
  refine lv S (rn_len_str Tryz.underlying9 (S.tm rfl)) rfl ?_;clear S;intro a S
  obtain ⟨r2, hr2, h⟩ := bindE h
  refine l_enter1 0 S (b := O) rfl rfl (fun _ => .blk O [U, iV r2.2] 25) (fun _ => run_call (vs := [.pointer (some ⟨O, 0, none⟩), iV (Ay.size : Int)]) ⟨(S.tm rfl), (S.tm rfl), trivial⟩ Tryz.call15) (Stream_Next_ok _ O U Af (Ah.mono (S.le_arg (fp_sub (i := 0) (e := .blk O [U, iV r1.2] 25) rfl))) r1.2 (S.holds _ (List.mem_of_getElem? (i := 0) rfl)) (Ay.size : Int) _ hr2) rfl (fun _ _ _ h => ⟨h.1, fun _ hc => by cases hc;rfl⟩) ?_;clear S;intro v2 a w3 hv2 hk3 hn2 S
  replace hv2 := hv2.2
  subst hv2
  obtain ⟨hc1, h⟩ := chkE h
  refine lv S (rn_sindexT Tryz.underlying9 (S.tm rfl) (S.tm rfl) hc1) rfl ?_;clear S;intro a S
  refine lv S (Ra (S.tm rfl)) rfl ?_;clear S;intro a S
  refine Ld ?_
  replace S := S.nk [.blk O [U, iV r2.2] 25] [(0, .pointer (some ⟨O, 0, none⟩)), (1, sV Az), (7, iV r1.1), (8, .int .u8 (sbyte Ay r2.1))] [true] rfl (subR rfl)
  refine Tn (Fs (Fs (Fg (lv S (Rm (S.tm rfl)) rfl ?_))));clear S;intro a S
  obtain ⟨r3, hr3, h⟩ := bindE h
  refine l_enter1 0 S (b := O) rfl rfl (fun _ => .blk O [U, iV r3.2] 25) (fun _ => run_call (vs := [.pointer (some ⟨O, 0, none⟩), iV 3]) ⟨(S.tm rfl), rfl, trivial⟩ Tryz.call15) (Stream_Next_ok _ O U Af (Ah.mono (S.le_arg (fp_sub (i := 0) (e := .blk O [U, iV r2.2] 25) rfl))) r2.2 (S.holds _ (List.mem_of_getElem? (i := 0) rfl)) 3 _ hr3) rfl (fun _ _ _ h => ⟨h.1, fun _ hc => by cases hc;rfl⟩) ?_;clear S;intro v3 a w4 hv3 hk4 hn3 S
  replace hv3 := hv3.2
  subst hv3
  refine Ld (Tn (wp_block (Fs (Fg (lv S (rn_eql (S.tm rfl) rfl) rfl ?_)))));clear S;intro a S
  refine lv S (Ra (S.tm rfl)) rfl ?_;clear S;intro a S
  refine Ld (Tn (f_cond (S.tm rfl) (fun hb3 => ?_) (fun hb3 => ?_)))
  ·replace h := iteT h hb3
   refine Fs (d_region [] ([]) Tryz.mixed S rfl (by kernel_rfl) ?_);clear S;intro w5 hk5 hsel S
   refine d_rest [0, 1, 2, 3, 4, 5, 6, 7, 8, 9, 10, 11, 12] hsel (by kernel_rfl) rfl ?_
   clear hsel
   refine s_lv S rfl (Rm (S.tm rfl)) rfl ?_;clear S;intro a S
   refine s_lv S rfl (Rm (S.tm rfl)) rfl ?_;clear S;intro a S
   obtain ⟨hc2, h⟩ := chkE h
   refine s_lv S rfl (rn_scutTh Tryz.underlying9 (S.tm rfl) (S.tm rfl) hc2) rfl ?_;clear S;intro a S
   refine s_lv S rfl (Rm (S.tm rfl)) rfl ?_;clear S;intro a S
   refine s_lv S rfl (rn_conv Tryz.underlying5 Tryz.underlying21 (S.tm rfl)) rfl ?_;clear S;intro a S
   refine s_lv S rfl (rn_runestr Tryz.underlying21 Tryz.underlying9 (S.tm rfl)) rfl ?_;clear S;intro a S
   obtain ⟨hc3, h⟩ := chkE h
   refine s_lv S rfl (rn_sadd (m := (scut Az 0 r1.1)) (n := (Utf8.encode (IntKind.wrap .i32 (sbyte Ay r2.1)))) (S.tm rfl) (S.tm rfl) (by have := room_lt hc3;omega)) rfl ?_;clear S;intro a S
   refine s_lv S rfl (Rm (S.tm rfl)) rfl ?_;clear S;intro a S
   refine s_lv S rfl (Rm (S.tm rfl)) rfl ?_;clear S;intro a S
   refine s_lv S rfl (rn_add (S.tm rfl) rfl) rfl ?_;clear S;intro a S
   obtain ⟨hc4, h⟩ := chkE h
   refine s_lv S rfl (rn_scutTl Tryz.underlying9 (S.tm rfl) (S.tm rfl) hc4) rfl ?_;clear S;intro a S
   obtain ⟨hc5, h⟩ := chkE h
   refine s_lv S rfl (rn_sadd (m := ((scut Az 0 r1.1) ++ (Utf8.encode (IntKind.wrap .i32 (sbyte Ay r2.1))))) (n := (scut Az (W (r1.1 + 1)) Az.size)) (S.tm rfl) (S.tm rfl) (by have := room_lt hc5;omega)) rfl ?_;clear S;intro a S
   refine s_lv S rfl (Ra (S.tm rfl)) rfl ?_;clear S;intro a S
   refine s_done ?_
   replace S := S.nk [.blk O [U, iV r3.2] 25] [(6, sV (((scut Az 0 r1.1) ++ (Utf8.encode (IntKind.wrap .i32 (sbyte Ay r2.1)))) ++ (scut Az (W (r1.1 + 1)) Az.size)))] [true] rfl ⟨rfl, trivial⟩
   refine Tn (wp_ret (blk_r (then_r ?_)))
   obtain rfl := Option.some.inj h
   exact f_ret S Tryz.results19 rfl ⟨(S.holds _ (List.mem_of_getElem? (i := 0) rfl)), rfl⟩
  ·replace h := iteF h hb3
   refine Fs (Fg (lv S (rn_eql (S.tm rfl) rfl) rfl ?_));clear S;intro a S
   refine lv S (Ra (S.tm rfl)) rfl ?_;clear S;intro a S
   refine Ld (Tn (f_cond (S.tm rfl) (fun hb4 => ?_) (fun hb4 => ?_)))
   ·replace h := iteT h hb4
    refine Fs (d_region [] ([]) Tryz.mixed S rfl (by kernel_rfl) ?_);clear S;intro w6 hk6 hsel S
    refine d_rest [0, 1, 2, 3, 4, 5, 6, 7, 8, 9, 10, 11] hsel (by kernel_rfl) rfl ?_
    clear hsel
    refine s_lv S rfl (Rm (S.tm rfl)) rfl ?_;clear S;intro a S
    refine s_lv S rfl (Rm (S.tm rfl)) rfl ?_;clear S;intro a S
    obtain ⟨hc6, h⟩ := chkE h
    refine s_lv S rfl (rn_scutTh Tryz.underlying9 (S.tm rfl) (S.tm rfl) hc6) rfl ?_;clear S;intro a S
    refine s_lv S rfl (Rm (S.tm rfl)) rfl ?_;clear S;intro a S
    refine s_lv S rfl (rn_conv Tryz.underlying5 Tryz.underlying21 (S.tm rfl)) rfl ?_;clear S;intro a S
    refine s_lv S rfl (rn_runestr Tryz.underlying21 Tryz.underlying9 (S.tm rfl)) rfl ?_;clear S;intro a S
    obtain ⟨hc7, h⟩ := chkE h
    refine s_lv S rfl (rn_sadd (m := (scut Az 0 r1.1)) (n := (Utf8.encode (IntKind.wrap .i32 (sbyte Ay r2.1)))) (S.tm rfl) (S.tm rfl) (by have := room_lt hc7;omega)) rfl ?_;clear S;intro a S
    refine s_lv S rfl (Rm (S.tm rfl)) rfl ?_;clear S;intro a S
    refine s_lv S rfl (Rm (S.tm rfl)) rfl ?_;clear S;intro a S
    obtain ⟨hc8, h⟩ := chkE h
    refine s_lv S rfl (rn_scutTl Tryz.underlying9 (S.tm rfl) (S.tm rfl) hc8) rfl ?_;clear S;intro a S
    obtain ⟨hc9, h⟩ := chkE h
    refine s_lv S rfl (rn_sadd (m := ((scut Az 0 r1.1) ++ (Utf8.encode (IntKind.wrap .i32 (sbyte Ay r2.1))))) (n := (scut Az r1.1 Az.size)) (S.tm rfl) (S.tm rfl) (by have := room_lt hc9;omega)) rfl ?_;clear S;intro a S
    refine s_lv S rfl (Ra (S.tm rfl)) rfl ?_;clear S;intro a S
    refine s_done ?_
    replace S := S.nk [.blk O [U, iV r3.2] 25] [(6, sV (((scut Az 0 r1.1) ++ (Utf8.encode (IntKind.wrap .i32 (sbyte Ay r2.1)))) ++ (scut Az r1.1 Az.size)))] [true] rfl ⟨rfl, trivial⟩
    refine Tn (wp_ret (blk_r (then_r ?_)))
    obtain rfl := Option.some.inj h
    exact f_ret S Tryz.results19 rfl ⟨(S.holds _ (List.mem_of_getElem? (i := 0) rfl)), rfl⟩
   ·replace h := iteF h hb4
    refine wp_skip (blk_n (Tn (Fs (d_region [] ([]) Tryz.mixed S rfl (by kernel_rfl) ?_))));clear S;intro w7 hk7 hsel S
    refine d_rest [0, 1, 2, 3, 4, 5, 6, 7, 8] hsel (by kernel_rfl) rfl ?_
    clear hsel
    refine s_lv S rfl (Rm (S.tm rfl)) rfl ?_;clear S;intro a S
    refine s_lv S rfl (Rm (S.tm rfl)) rfl ?_;clear S;intro a S
    obtain ⟨hc10, h⟩ := chkE h
    refine s_lv S rfl (rn_scutTh Tryz.underlying9 (S.tm rfl) (S.tm rfl) hc10) rfl ?_;clear S;intro a S
    refine s_lv S rfl (Rm (S.tm rfl)) rfl ?_;clear S;intro a S
    refine s_lv S rfl (Rm (S.tm rfl)) rfl ?_;clear S;intro a S
    refine s_lv S rfl (rn_add (S.tm rfl) rfl) rfl ?_;clear S;intro a S
    obtain ⟨hc11, h⟩ := chkE h
    refine s_lv S rfl (rn_scutTl Tryz.underlying9 (S.tm rfl) (S.tm rfl) hc11) rfl ?_;clear S;intro a S
    obtain ⟨hc12, h⟩ := chkE h
    refine s_lv S rfl (rn_sadd (m := (scut Az 0 r1.1)) (n := (scut Az (W (r1.1 + 1)) Az.size)) (S.tm rfl) (S.tm rfl) (by have := room_lt hc12;omega)) rfl ?_;clear S;intro a S
    refine s_lv S rfl (Ra (S.tm rfl)) rfl ?_;clear S;intro a S
    refine s_done ?_
    replace S := S.nk [.blk O [U, iV r3.2] 25] [(6, sV ((scut Az 0 r1.1) ++ (scut Az (W (r1.1 + 1)) Az.size)))] [true] rfl ⟨rfl, trivial⟩
    refine Tn (wp_ret ?_)
    obtain rfl := Option.some.inj h
    exact f_ret S Tryz.results19 rfl ⟨(S.holds _ (List.mem_of_getElem? (i := 0) rfl)), rfl⟩
theorem Stream_SwimmerText_ok (w : World) (O : Nat) (U : Value) (Af : List Int) (Ah : Slc (view w [O]) 1 U (Af.map eInt)) (Z : Int) (Ar : (LEnt.blk O [U, iV Z] 25).holds w) (hg_pow10 : Glob (view w [O]) 3 pow10Cells) (r : ByteArray × Int) (h : Stream_SwimmerText Af Z = some r) :
    Calls Tryz.prog 5 [.pointer (some ⟨O, 0, none⟩)].toArray w (Ret w [O] fun _ v w' => (LEnt.blk O [U, iV r.2] 25).holds w' ∧ v = sV r.1) := by
 refine f_enter [O] [.blk O [U, iV Z] 25] Tryz.func5 rfl Tryz.ntmps5 rfl (fun e he => by simp only [List.mem_singleton] at he;subst he;exact Ar) (by simp [fps, LEnt.fp]) (by simp [fps, LEnt.fp]) fun a S => ?_
 unfold Stream_SwimmerText at h
 replace S := S.nk [.blk O [U, iV Z] 25] [(0, .pointer (some ⟨O, 0, none⟩))] [true] rfl ⟨rfl, trivial⟩
 refine Fs (Fg (lv S (Ra rfl) rfl ?_));clear S;intro a S
 refine Ld (Tn (Fs (Fg (lv S (Rm (S.tm rfl)) rfl ?_))));clear S;intro a S
 obtain ⟨r1, hr1, h⟩ := bindE h
 have hz1 := S.keep.size
 refine l_enter1 0 S (b := O) rfl rfl (fun _ => .blk O [U, iV r1.2] 25) (fun _ => run_call (vs := [.pointer (some ⟨O, 0, none⟩)]) ⟨(S.tm rfl), trivial⟩ Tryz.call13) (Stream_RightSwimmers_ok _ O U Af (Ah.mono (S.le_arg (fp_sub (i := 0) (e := .blk O [U, iV Z] 25) rfl))) Z (S.holds _ (List.mem_of_getElem? (i := 0) rfl)) _ hr1) rfl (fun _ _ _ h => ⟨h.1, fun _ hc => by cases hc;rfl⟩) ?_;clear S;intro v1 a w1 hv1 hk1 hn1 S
 replace hv1 := hv1.2
 obtain ⟨φ1, hl1, hm1, S⟩ := S.see' hn1 hz1
 have hs1 := hv1.mono hm1
 refine lv S (Ra (S.tm rfl)) rfl ?_;clear S;intro a S
 refine Ld (Tn (Fs (Fg (lv S (Rm (S.tm rfl)) rfl ?_))));clear S;intro a S
 refine lv S (Rm (S.tm rfl)) rfl ?_;clear S;intro a S
 refine lv S (rn_lenT sl_26 (S.tm rfl) (slc_len (ownV_slcT GSwimmer.enc_ok hs1))) rfl ?_;clear S;intro a S
 refine lv S (rn_min2 (S.tm rfl) rfl) rfl ?_;clear S;intro a S
 obtain ⟨hc1, h⟩ := chkE h
 obtain ⟨v2, hs2, hr2⟩ := rn_cutTh (a := a) (x := .tmp 7) (y' := .tmp 10) (ty := 26) sl_26 (ownV_slcT GSwimmer.enc_ok hs1) (S.tm rfl) (S.tm rfl) hc1
 refine lv S (hr2 _) rfl ?_;clear S;intro a S
 clear hr2
 obtain ⟨r2, hr3, h⟩ := bindE h
 refine l_enter S (fun _ => run_call (vs := [v2]) ⟨(S.tm rfl), trivial⟩ Tryz.call8) (tumbref2_SwimmerLines_ok _ v2 (cut r1.1 0 (imin (r1.1.length : Int) 3)) (hs2.mono (S.le_new nil_sub)) (hg_pow10.mono (S.le_arg nil_sub)) _ hr3) rfl ?_;clear S;intro v3 a w2 hv2 hk2 hn2 S
 subst hv2
 refine lv S (Ra (S.tm rfl)) rfl ?_;clear S;intro a S
 refine Ld (Tn (Fs (Fs (Fg (lv S (Rm (S.tm rfl)) rfl ?_)))));clear S;intro a S
 refine l_buildSlice S Tryz.underlying22 Tryz.sizeOf3 Tryz.zeroValue3 rfl rfl (pv := [(0, iV 0), (1, iV 0), (2, iV 1), (3, iV 2)]) ⟨rfl, rfl, rfl, rfl, rfl, rfl, rfl, rfl, trivial⟩ (cs := [iV 0, iV 0, iV 1, iV 2]) (by kernel_rfl) rfl ?_;clear S;intro a w3 b1 hz2 hk3 S
 obtain ⟨r3, hr4, h⟩ := bindE h
 refine l_enter1 1 S (b := O) rfl rfl (fun _ => .blk O [U, iV r3.2] 25) (fun _ => run_call (vs := [.pointer (some ⟨O, 0, none⟩), .slice (some ⟨b1, 0, none⟩) 4 4]) ⟨(S.tm rfl), (S.tm rfl), trivial⟩ Tryz.call17) (Stream_Pick_ok _ O U Af (Ah.mono (S.le_arg (fp_sub (i := 1) (e := .blk O [U, iV r1.2] 25) rfl))) r1.2 (S.holds _ (List.mem_of_getElem? (i := 1) rfl)) (.slice (some ⟨b1, 0, none⟩) 4 4) [0, 0, 1, 2] (lit_slcT enc_int S (i := 0) rfl rfl rfl rfl ((ne_fp (i := 1) (j := 0) (e := .blk O [U, iV r1.2] 25) (e' := .blk b1 [iV 0, iV 0, iV 1, iV 2] 3) S rfl rfl rfl) _ rfl)) _ hr4) rfl (fun _ _ _ h => ⟨h.1, fun _ hc => by cases hc;rfl⟩) ?_;clear S;intro v4 a w4 hv3 hk4 hn3 S
 replace hv3 := hv3.2
 subst hv3
 refine lv S (Rm rfl) rfl ?_;clear S;intro a S
 refine Ld ?_
 replace S := S.nk [.blk O [U, iV r3.2] 25] [(0, .pointer (some ⟨O, 0, none⟩)), (4, sV r2), (15, iV r3.1), (16, iV 0)] [false, true] rfl (subR rfl)
 refine Tn ?_
 obtain ⟨j1, hj1, h⟩ := joinE h
 refine f_join (fun a w' => ∃ x1 : Int, ∃ x2 : ByteArray, j1 x1 x2 = some r ∧ Sx w [O] φ1 [.blk O [U, iV x1] 25] [(4, sV x2)] 23 a w') ?_ ?_
 ·refine wp_block (f_loop (fun (m1 : Nat) a w' => ∃ x1 : Int, ∃ x2 : ByteArray, ∃ x3 : Int, Stream_SwimmerText_l1 r3 Af j1 m1 x1 x2 x3 = some r ∧ Sx w [O] φ1 [.blk O [U, iV x1] 25] [(0, .pointer (some ⟨O, 0, none⟩)), (4, sV x2), (15, iV r3.1), (16, iV x3)] 23 a w') id ((r3.1 - 0).toNat + 2) ⟨r3.2, r2, 0, h, S.nf [true] rfl (subR rfl)⟩ ?_)
  clear S h;rintro m1 a w5 ⟨x1, x2, x3, h, S⟩
  cases m1 with
  | zero => rw [Stream_SwimmerText_l1.eq_1] at h;cases h
  | succ m1 =>
   rw [Stream_SwimmerText_l1.eq_2] at h
   refine Fs (Fg (lv S (rn_lss (S.tm rfl) (S.tm rfl)) rfl ?_));clear S;intro a S
   refine Ld (Tn (Fs (f_cond (S.tm rfl) (fun hb1 => ?_) (fun hb1 => ?_))))
   ·replace h := iteT h hb1
    refine wp_skip (Tn (Fs (wp_block (Fg (lv S (Rm (S.tm rfl)) rfl ?_)))));clear S;intro a S
    refine lv S (Rm (S.tm rfl)) rfl ?_;clear S;intro a S
    obtain ⟨r4, hr5, h⟩ := bindE h
    refine l_enter1 0 S (b := O) rfl rfl (fun _ => .blk O [U, iV r4.2] 25) (fun _ => run_call (vs := [.pointer (some ⟨O, 0, none⟩), sV x2, sV k__20_0a0_2d912fm]) ⟨(S.tm rfl), (S.tm rfl), rfl, trivial⟩ Tryz.call19) (Stream_Changed_ok _ O U Af (Ah.mono (S.le_arg (fp_sub (i := 0) (e := .blk O [U, iV x1] 25) rfl))) x1 (S.holds _ (List.mem_of_getElem? (i := 0) rfl)) x2 k__20_0a0_2d912fm _ hr5) rfl (fun _ _ _ h => ⟨h.1, fun _ hc => by cases hc;rfl⟩) ?_;clear S;intro v5 a w7 hv4 hk5 hn4 S
    replace hv4 := hv4.2
    subst hv4
    refine lv S (Ra (S.tm rfl)) rfl ?_;clear S;intro a S
    refine Ld (blk_n (Tn (Fg (lv S (rn_add (S.tm rfl) rfl) rfl ?_))));clear S;intro a S
    refine lv S (Rm (S.tm rfl)) rfl ?_;clear S;intro a S
    refine Ld (Tn ?_)
    exact ⟨m1, ⟨r4.2, r4.1, W (x3 + 1), h, S.nf [true] rfl ⟨rfl, rfl, rfl, rfl, trivial⟩⟩, Nat.lt_succ_self _⟩
   ·replace h := iteF h hb1
    refine wp_exit (then_x (then_x (x_same (Tn ?_))))
    exact ⟨x1, x2, h, S.nf [true] rfl ⟨rfl, trivial⟩⟩
 clear S h;rintro a w6 ⟨x1, x2, h, S⟩;rw [hj1] at h;clear hj1 j1
 refine Tn (Fs (Fg (lv S (Rm (S.tm rfl)) rfl ?_)));clear S;intro a S
 refine lv S (Ra (S.tm rfl)) rfl ?_;clear S;intro a S
 refine Ld (Tn (wp_ret ?_))
 obtain rfl := Option.some.inj h
 exact f_ret S Tryz.results5 rfl ⟨(S.holds _ (List.mem_of_getElem? (i := 0) rfl)), rfl⟩
theorem strings_Trim_ok (w : World) (s c : ByteArray) (r : ByteArray) (h : strings_Trim s c = some r) : Calls Tryz.prog 58 [.string s, .string c].toArray w (Ret w [] fun _ v _ => v = .string r) := by
  unfold strings_Trim at h
  obtain ⟨h1, h⟩ := chkE h
  obtain ⟨h2, h⟩ := chkE h
  obtain ⟨h3, h⟩ := chkE h
  obtain rfl := Option.some.inj h
  exact ret_of_below (Any.strings_Trim_laid Tryz.lays160 (by kernel_rfl) s c w (by simpa using h1) (by simpa using h2) (fun j b hb => by simpa using List.all_eq_true.1 h3 b (List.mem_of_getElem? hb)))
theorem words_IsKey_ok (w : World) (Ad : ByteArray) (r : Bool) (h : words_IsKey Ad = some r) :
    Calls Tryz.prog 47 [sV Ad].toArray w (Ret w [] fun _ v _ => v = bV r) := by
 refine f_enter [] [] Tryz.func47 rfl Tryz.ntmps47 rfl (by simp) (by simp [fps]) (by simp [fps]) fun a S => ?_
 unfold words_IsKey at h
 replace S := S.nk [] [(0, sV Ad)] [] rfl ⟨rfl, trivial⟩
 refine Fs (Fg (lv S (Ra rfl) rfl ?_));clear S;intro a S
 refine Ld (Tn (Fs (Fg (lv S (Rm (S.tm rfl)) rfl ?_))));clear S;intro a S
 refine lv S (rn_len_str Tryz.underlying9 (S.tm rfl)) rfl ?_;clear S;intro a S
 refine lv S (rn_geq (S.tm rfl) rfl) rfl ?_;clear S;intro a S
 refine lv S (Rm (S.tm rfl)) rfl ?_;clear S;intro a S
 refine f_cutm 4 (fun a w' => Keep [] w w' ∧ Sx w [] nov [] [(0, sV Ad), (10, bV ((decide (1 ≤ (Ad.size : Int))) && (decide ((Ad.size : Int) ≤ 40))))] 26 a w') ?_ ?_
 ·rcases Bool.eq_false_or_eq_true (decide (1 ≤ (Ad.size : Int))) with hb1 | hb1
  ·refine l_want S rfl rfl rfl hb1 (lv S (Rm (S.tm rfl)) rfl ?_);clear S;intro a S
   refine l_want S rfl rfl rfl hb1 (lv S (rn_len_str Tryz.underlying9 (S.tm rfl)) rfl ?_);clear S;intro a S
   refine l_want S rfl rfl rfl hb1 (lv S (rn_leq (S.tm rfl) rfl) rfl ?_);clear S;intro a S
   refine lv S (rn_and_t hb1 (S.tm rfl) (S.tm rfl)) rfl ?_;clear S;intro a S
   refine Ld (Tn ?_)
   exact ⟨Keep.refl _ _, S.nf [] rfl (subR rfl)⟩
  ·iterate 3 (refine l_skip S rfl rfl rfl (neq_f hb1) rfl ?_ rfl;clear S;intro a S)
   refine lv S (rn_and_f (decide ((Ad.size : Int) ≤ 40)) hb1 (S.tm rfl) rfl) rfl ?_;clear S;intro a S
   refine Ld (Tn ?_)
   exact ⟨Keep.refl _ _, S.nf [] rfl (subR rfl)⟩
 clear S;rintro a w1 ⟨hk1, S⟩
 refine lv S (Rm (S.tm rfl)) rfl ?_;clear S;intro a S
 obtain ⟨j1, hj1, h⟩ := joinE h
 refine f_cutm 4 (fun a w' => ∃ c1, j1 c1 = some r ∧ Keep [] w1 w' ∧ Sx w [] nov [] [(0, sV Ad), (15, bV c1)] 26 a w') ?_ ?_
 ·rcases Bool.eq_false_or_eq_true ((decide (1 ≤ (Ad.size : Int))) && (decide ((Ad.size : Int) ≤ 40))) with hb2 | hb2
  ·replace h := iteT h hb2
   refine l_want S rfl rfl rfl hb2 (lv S (Rm (S.tm rfl)) rfl ?_);clear S;intro a S
   refine l_want S rfl rfl rfl hb2 ?_
   obtain ⟨hc1, h⟩ := chkE h
   refine lv S (rn_sindexT Tryz.underlying9 (S.tm rfl) rfl hc1) rfl ?_;clear S;intro a S
   refine l_want S rfl rfl rfl hb2 (lv S (rn_geq (S.tm rfl) rfl) rfl ?_);clear S;intro a S
   refine lv S (rn_and_t hb2 (S.tm rfl) (S.tm rfl)) rfl ?_;clear S;intro a S
   refine Ld (Tn ?_)
   exact ⟨_, h, Keep.refl _ _, S.nf [] rfl (subR rfl)⟩
  ·replace h := iteF h hb2
   iterate 3 (refine l_skip S rfl rfl rfl (neq_f hb2) rfl ?_ rfl;clear S;intro a S)
   refine lv S (rn_and_f true hb2 (S.tm rfl) rfl) rfl ?_;clear S;intro a S
   refine Ld (Tn ?_)
   exact ⟨_, h, Keep.refl _ _, S.nf [] rfl (subR rfl)⟩
 clear S h;rintro a w2 ⟨c1, h, hk2, S⟩;rw [hj1] at h;clear hj1 j1
 refine lv S (Rm (S.tm rfl)) rfl ?_;clear S;intro a S
 obtain ⟨j2, hj2, h⟩ := joinE h
 refine f_cutm 4 (fun a w' => ∃ c2, j2 c2 = some r ∧ Keep [] w2 w' ∧ Sx w [] nov [] [(0, sV Ad), (20, bV c2)] 26 a w') ?_ ?_
 ·rcases Bool.eq_false_or_eq_true c1 with hb3 | hb3
  ·replace h := iteT h hb3
   refine l_want S rfl rfl rfl hb3 (lv S (Rm (S.tm rfl)) rfl ?_);clear S;intro a S
   refine l_want S rfl rfl rfl hb3 ?_
   obtain ⟨hc2, h⟩ := chkE h
   refine lv S (rn_sindexT Tryz.underlying9 (S.tm rfl) rfl hc2) rfl ?_;clear S;intro a S
   refine l_want S rfl rfl rfl hb3 (lv S (rn_leq (S.tm rfl) rfl) rfl ?_);clear S;intro a S
   refine lv S (rn_and_t hb3 (S.tm rfl) (S.tm rfl)) rfl ?_;clear S;intro a S
   refine Ld (Tn ?_)
   exact ⟨_, h, Keep.refl _ _, S.nf [] rfl (subR rfl)⟩
  ·replace h := iteF h hb3
   iterate 3 (refine l_skip S rfl rfl rfl (neq_f hb3) rfl ?_ rfl;clear S;intro a S)
   refine lv S (rn_and_f true hb3 (S.tm rfl) rfl) rfl ?_;clear S;intro a S
   refine Ld (Tn ?_)
   exact ⟨_, h, Keep.refl _ _, S.nf [] rfl (subR rfl)⟩
 clear S h;rintro a w3 ⟨c2, h, hk3, S⟩;rw [hj2] at h;clear hj2 j2
 refine lv S (Rm (S.tm rfl)) rfl ?_;clear S;intro a S
 obtain ⟨j3, hj3, h⟩ := joinE h
 refine f_cutm 4 (fun a w' => ∃ c3, j3 c3 = some r ∧ Keep [] w3 w' ∧ Sx w [] nov [] [(25, bV c3)] 26 a w') ?_ ?_
 ·rcases Bool.eq_false_or_eq_true c2 with hb4 | hb4
  ·replace h := iteT h hb4
   refine l_want S rfl rfl rfl hb4 (lv S (Rm (S.tm rfl)) rfl ?_);clear S;intro a S
   refine l_want S rfl rfl rfl hb4 ?_
   obtain ⟨r1, hr1, h⟩ := bindE h
   refine l_enter S (fun _ => run_call (vs := [sV Ad, sV k_abcdefghijkl_h0e2e2c]) ⟨(S.tm rfl), rfl, trivial⟩ Tryz.call58) (strings_Trim_ok _ Ad k_abcdefghijkl_h0e2e2c _ hr1) rfl ?_;clear S;intro v1 a w5 hv1 hk4 hn1 S
   subst hv1
   refine l_want S rfl rfl rfl hb4 (lv S (rn_seql (S.tm rfl) rfl) rfl ?_);clear S;intro a S
   refine lv S (rn_and_t hb4 (S.tm rfl) (S.tm rfl)) rfl ?_;clear S;intro a S
   refine Ld (Tn ?_)
   exact ⟨_, h, hk4, S.nf [] rfl ⟨rfl, trivial⟩⟩
  ·replace h := iteF h hb4
   iterate 3 (refine l_skip S rfl rfl rfl (neq_f hb4) rfl ?_ rfl;clear S;intro a S)
   refine lv S (rn_and_f true hb4 (S.tm rfl) rfl) rfl ?_;clear S;intro a S
   refine Ld (Tn ?_)
   exact ⟨_, h, Keep.refl _ _, S.nf [] rfl ⟨rfl, trivial⟩⟩
 clear S h;rintro a w4 ⟨c3, h, hk5, S⟩;rw [hj3] at h;clear hj3 j3
 refine lv S (Ra (S.tm rfl)) rfl ?_;clear S;intro a S
 refine Ld (Tn (wp_ret ?_))
 obtain rfl := Option.some.inj h
 exact f_ret S Tryz.results47 rfl rfl
theorem words_Within_ok (w : World) (Al : Int) (Ap : Int) (Am : Int) (r : Bool) (h : words_Within Al Ap Am = r) :
    Calls Tryz.prog 66 [iV Al, iV Ap, iV Am].toArray w (Ret w [] fun _ v _ => v = bV r) := by
 refine f_enter [] [] Tryz.func66 rfl Tryz.ntmps66 rfl (by simp) (by simp [fps]) (by simp [fps]) fun a S => ?_
 unfold words_Within at h
 replace S := S.nk [] [(0, iV Al), (1, iV Ap), (2, iV Am)] [] rfl (subR rfl)
 refine Fs (Fg (lv S (Ra rfl) rfl ?_));clear S;intro a S
 refine Ld (Tn (Fs (Fg (lv S (Rm (S.tm rfl)) rfl ?_))));clear S;intro a S
 refine lv S (Rm (S.tm rfl)) rfl ?_;clear S;intro a S
 refine lv S (rn_geq (S.tm rfl) (S.tm rfl)) rfl ?_;clear S;intro a S
 refine lv S (Rm (S.tm rfl)) rfl ?_;clear S;intro a S
 refine f_cutm 4 (fun a w' => Keep [] w w' ∧ Sx w [] nov [] [(14, bV ((decide (Ap ≤ Al)) && (decide (Al ≤ Am))))] 15 a w') ?_ ?_
 ·rcases Bool.eq_false_or_eq_true (decide (Ap ≤ Al)) with hb1 | hb1
  ·refine l_want S rfl rfl rfl hb1 (lv S (Rm (S.tm rfl)) rfl ?_);clear S;intro a S
   refine l_want S rfl rfl rfl hb1 (lv S (Rm (S.tm rfl)) rfl ?_);clear S;intro a S
   refine l_want S rfl rfl rfl hb1 (lv S (rn_leq (S.tm rfl) (S.tm rfl)) rfl ?_);clear S;intro a S
   refine lv S (rn_and_t hb1 (S.tm rfl) (S.tm rfl)) rfl ?_;clear S;intro a S
   refine Ld (Tn ?_)
   exact ⟨Keep.refl _ _, S.nf [] rfl ⟨rfl, trivial⟩⟩
  ·iterate 3 (refine l_skip S rfl rfl rfl (neq_f hb1) rfl ?_ rfl;clear S;intro a S)
   refine lv S (rn_and_f (decide (Al ≤ Am)) hb1 (S.tm rfl) rfl) rfl ?_;clear S;intro a S
   refine Ld (Tn ?_)
   exact ⟨Keep.refl _ _, S.nf [] rfl ⟨rfl, trivial⟩⟩
 clear S;rintro a w1 ⟨hk1, S⟩
 refine lv S (Ra (S.tm rfl)) rfl ?_;clear S;intro a S
 refine Ld (Tn (wp_ret ?_))
 subst h
 exact f_ret S Tryz.results66 rfl rfl
theorem swimmer_isDay_ok (w : World) (Al : Int) (r : Bool) (h : swimmer_isDay Al = r) :
    Calls Tryz.prog 48 [iV Al].toArray w (Ret w [] fun _ v _ => v = bV r) := by
 refine f_enter [] [] Tryz.func48 rfl Tryz.ntmps48 rfl (by simp) (by simp [fps]) (by simp [fps]) fun a S => ?_
 unfold swimmer_isDay at h
 replace S := S.nk [] [(0, iV Al)] [] rfl ⟨rfl, trivial⟩
 refine Fs (Fg (lv S (Ra rfl) rfl ?_));clear S;intro a S
 refine Ld (Tn (Fs (Fg (lv S (Rm (S.tm rfl)) rfl ?_))));clear S;intro a S
 refine l_enter S (fun _ => run_call (vs := [iV Al, iV (-40000), iV 4000]) ⟨(S.tm rfl), rfl, rfl, trivial⟩ Tryz.call66) (words_Within_ok _ Al (-40000) 4000 _ rfl) rfl ?_;clear S;intro v1 a w1 hv1 hk1 hn1 S
 subst hv1
 refine lv S (Ra (S.tm rfl)) rfl ?_;clear S;intro a S
 refine Ld (Tn (wp_ret ?_))
 subst h
 exact f_ret S Tryz.results48 rfl rfl
set_option maxRecDepth 20000 in
theorem swimmer_CheckSwimmers_ok (w : World) (Ae : Value) (Aj : List GSwimmer) (Ao : Slc (view w []) 3 Ae (Aj.map GSwimmer.enc)) (r : Int) (h : swimmer_CheckSwimmers Aj = some r) :
    Calls Tryz.prog 20 [Ae].toArray w (Ret w [] fun _ v _ => v = iV r) := by
 refine f_enter [] [] Tryz.func20 rfl Tryz.ntmps20 rfl (by simp) (by simp [fps]) (by simp [fps]) fun a S => ?_
 unfold swimmer_CheckSwimmers at h
 replace S := S.nk [] [(0, Ae)] [] rfl ⟨rfl, trivial⟩
 refine Fs (Fg (lv S (Ra rfl) rfl ?_));clear S;intro a S
 refine Ld (Tn (Fs (Fs (Fg (lv S (Rm (S.tm rfl)) rfl ?_)))));clear S;intro a S
 refine lv S (rn_lenT sl_26 (S.tm rfl) (slc_len Ao)) rfl ?_;clear S;intro a S
 refine lv S (rn_gtr (S.tm rfl) rfl) rfl ?_;clear S;intro a S
 refine Ld (Tn (f_cond (S.tm rfl) (fun hb1 => ?_) (fun hb1 => ?_)))
 ·replace h := iteT h hb1
  refine Fs (Fg (lv S (Ra rfl) rfl ?_));clear S;intro a S
  refine Ld (Tn (wp_ret (then_r ?_)))
  obtain rfl := Option.some.inj h
  exact f_ret S Tryz.results20 rfl rfl
 ·replace h := iteF h hb1
  refine wp_skip (Tn (Fs (Fs (Fg (lv S (Rm (S.tm rfl)) rfl ?_)))));clear S;intro a S
  refine lv S (rn_lenT sl_26 (S.tm rfl) (slc_len Ao)) rfl ?_;clear S;intro a S
  refine lv S (Rm rfl) rfl ?_;clear S;intro a S
  refine Ld (Tn ?_)
  replace S := S.nk [] [(0, Ae), (8, Ae), (9, iV (Aj.length : Int)), (10, iV 0)] [] rfl (subR rfl)
  obtain ⟨j1, hj1, h⟩ := joinE h
  refine f_join (fun a w' => j1 = some r ∧ Sx w [] nov [] [] 50 a w') ?_ ?_
  ·refine wp_block (f_loop (fun (ys1 : List GSwimmer) a w' => ∃ i1 : Nat, (∃ dn, Aj = dn ++ ys1 ∧ dn.length = i1) ∧ swimmer_CheckSwimmers_l1 Aj j1 ys1 i1 = some r ∧ Sx w [] nov [] [(0, Ae), (8, Ae), (9, iV (Aj.length : Int)), (10, iV (i1 : Int))] 50 a w') List.length Aj ⟨0, ⟨[], rfl, rfl⟩, h, S.nf [] rfl (subR rfl)⟩ ?_)
   clear S h;rintro ys1 a w1 ⟨i1, ⟨dn, hd1, hi1⟩, h, S⟩
   cases ys1 with
   | nil =>
    rw [swimmer_CheckSwimmers_l1.eq_1] at h
    refine Fs (Fg (lv S (rn_lss (S.tm rfl) (S.tm rfl)) rfl ?_));clear S;intro a S
    refine Ld ?_
    replace S := S.nk [] [(0, Ae), (8, Ae), (9, iV (Aj.length : Int)), (10, iV (i1 : Int)), (11, bV (decide ((i1 : Int) < (Aj.length : Int))))] [] rfl (subR rfl)
    refine Tn (Fs (wp_cond_false ((S.tm rfl).trans (congrArg Value.bool (rng_nil hd1 hi1))) (wp_exit (then_x (then_x (x_same ?_))))))
    refine Tn ?_
    exact ⟨h, S.nf [] rfl trivial⟩
   | cons y1 ys1 =>
    rw [swimmer_CheckSwimmers_l1.eq_2] at h
    refine Fs (Fg (lv S (rn_lss (S.tm rfl) (S.tm rfl)) rfl ?_));clear S;intro a S
    refine Ld ?_
    replace S := S.nk [] [(0, Ae), (8, Ae), (9, iV (Aj.length : Int)), (10, iV (i1 : Int)), (11, bV (decide ((i1 : Int) < (Aj.length : Int))))] [] rfl (subR rfl)
    refine Tn (Fs (wp_cond_true ((S.tm rfl).trans (congrArg Value.bool (rng_cons hd1 hi1))) (wp_skip (Tn (Fs (wp_block ?_))))))
    refine Fs (Fg (lv S (Rm (S.tm rfl)) rfl ?_));clear S;intro a S
    obtain ⟨b1, o1, hm1, hr1⟩ := rn_indexT (a := a) (x := .tmp 8) (y := .tmp 10) (ty := 0) sl_26 Ao (get_mid hd1 hi1) rfl (S.tm rfl) (S.tm rfl)
    refine lv S (hr1 _) rfl ?_;clear S;intro a S
    clear hr1
    refine lv S (rn_ldA Tryz.isAgg38 Tryz.sizeOf38 (off := o1) (o := 0) (part := (GSwimmer.enc y1)) rfl rfl (S.tm rfl) (hm1.at S.emb0)) rfl ?_;clear S;intro a S
    refine l_alloc S Tryz.zeroValue38 (cs := [sV k_empty, iV 0, iV 0]) rfl rfl ?_;clear S;intro a w3 b2 hz1 hk1 S
    refine lv S (Ra (S.tm rfl)) rfl ?_;clear S;intro a S
    refine l_store S (S.tm rfl) (S.tm rfl) (i := 0) (off := 0) rfl Tryz.sizeOf38 (vs := (GSwimmer.enc y1)) rfl rfl rfl rfl ?_;clear S;intro w4 hk2 S
    refine Ld (Tn (wp_block (Fs (Fg (lv S (rn_fld fa_38_0 (S.tm rfl)) rfl ?_)))));clear S;intro a S
    refine lv S (rn_load Tryz.isAgg9 (S.tm rfl) (S.cell (i := 0) rfl rfl)) rfl ?_;clear S;intro a S
    obtain ⟨r1, hr2, h⟩ := bindE h
    refine l_enter S (fun _ => run_call (vs := [sV y1.Key]) ⟨(S.tm rfl), trivial⟩ Tryz.call47) (words_IsKey_ok _ y1.Key _ hr2) rfl ?_;clear S;intro v1 a w5 hv1 hk3 hn1 S
    subst hv1
    refine lv S (rn_not (S.tm rfl)) rfl ?_;clear S;intro a S
    refine lv S (Ra (S.tm rfl)) rfl ?_;clear S;intro a S
    refine Ld ?_
    replace S := S.nk [.blk b2 (GSwimmer.enc y1) 38] [(0, Ae), (3, iV (i1 : Int)), (4, .pointer (some ⟨b2, 0, none⟩)), (8, Ae), (9, iV (Aj.length : Int)), (10, iV (i1 : Int)), (15, bV (!r1))] [true] rfl (subR rfl)
    refine Tn (f_cond (S.tm rfl) (fun hb2 => ?_) (fun hb2 => ?_))
    ·replace h := iteT h hb2
     refine Fs (Fg (lv S (Ra rfl) rfl ?_));clear S;intro a S
     refine Ld (Tn (wp_ret (blk_r (blk_r (then_r (then_r ?_))))))
     refine blk_r (then_r (then_r ?_))
     obtain rfl := Option.some.inj h
     exact f_ret S Tryz.results20 rfl rfl
    ·replace h := iteF h hb2
     refine Fs (d_region [] ([]) Tryz.mixed S rfl (by kernel_rfl) ?_);clear S;intro w6 hk4 hsel S
     refine d_rest [0, 1, 2, 3, 4, 5, 6, 7, 8, 9, 10, 11, 12, 13] hsel (by kernel_rfl) rfl ?_
     clear hsel
     refine s_lv S rfl (Rm (S.tm rfl)) rfl ?_;clear S;intro a S
     refine s_lv S rfl (rn_gtr (S.tm rfl) rfl) rfl ?_;clear S;intro a S
     refine s_lv S rfl (Rm (S.tm rfl)) rfl ?_;clear S;intro a S
     obtain ⟨j2, hj2, h⟩ := joinE h
     refine s_cutm 10 (fun a w' => ∃ c1, j2 c1 = some r ∧ Keep [] w6 w' ∧ Sx w [] nov [.blk b2 (GSwimmer.enc y1) 38] [(0, Ae), (4, .pointer (some ⟨b2, 0, none⟩)), (8, Ae), (9, iV (Aj.length : Int)), (10, iV (i1 : Int)), (33, bV c1)] 50 a w') ?_ ?_
     ·rcases Bool.eq_false_or_eq_true (decide (0 < (i1 : Int))) with hb3 | hb3
      ·replace h := iteT h hb3
       refine s_want S rfl rfl rfl rfl hb3 (s_lv0 S (rn_fld fa_38_0 (S.tm rfl)) rfl ?_);clear S;intro a S
       refine s_want S rfl rfl rfl rfl hb3 (s_lv0 S (rn_load Tryz.isAgg9 (S.tm rfl) (S.cell (i := 0) rfl rfl)) rfl ?_);clear S;intro a S
       refine s_want S rfl rfl rfl rfl hb3 (s_lv0 S (Rm (S.tm rfl)) rfl ?_);clear S;intro a S
       refine s_want S rfl rfl rfl rfl hb3 (s_lv0 S (Rm (S.tm rfl)) rfl ?_);clear S;intro a S
       refine s_want S rfl rfl rfl rfl hb3 (s_lv0 S (rn_sub (S.tm rfl) rfl) rfl ?_);clear S;intro a S
       refine s_want S rfl rfl rfl rfl hb3 ?_
       obtain ⟨hc1, h⟩ := chkE h
       obtain ⟨b3, o2, hm2, hr3⟩ := rn_indexT (a := a) (x := .tmp 26) (y := .tmp 28) (ty := 0) sl_26 Ao (inB_get hc1).1 (inB_get hc1).2 (S.tm rfl) (S.tm rfl)
       refine s_lv0 S (hr3 _) rfl ?_;clear S;intro a S
       clear hr3
       refine s_want S rfl rfl rfl rfl hb3 (s_lv0 S (rn_fld fa_38_0 (S.tm rfl)) rfl ?_);clear S;intro a S
       refine s_want S rfl rfl rfl rfl hb3 (s_lv0 S (rn_ld Tryz.isAgg9 (off := o2) (o := 0) (S.tm rfl) (hm2.at S.emb0) rfl) rfl ?_);clear S;intro a S
       refine s_want S rfl rfl rfl rfl hb3 (s_lv0 S (rn_sleq (S.tm rfl) (S.tm rfl)) rfl ?_);clear S;intro a S
       refine s_lv S rfl (rn_and_t hb3 (S.tm rfl) (S.tm rfl)) rfl ?_;clear S;intro a S
       refine s_done ?_
       exact ⟨_, h, Keep.refl _ _, S.nf [true] rfl (subR rfl)⟩
      ·replace h := iteF h hb3
       iterate 9 (refine s_skip S rfl rfl rfl rfl (neq_f hb3) rfl ?_ rfl;clear S;intro a S)
       refine s_lv S rfl (rn_and_f true hb3 (S.tm rfl) rfl) rfl ?_;clear S;intro a S
       refine s_done ?_
       exact ⟨_, h, Keep.refl _ _, S.nf [true] rfl (subR rfl)⟩
     clear S h;rintro a w7 ⟨c1, h, hk5, S⟩;rw [hj2] at h;clear hj2 j2
     refine s_lv S rfl (Ra (S.tm rfl)) rfl ?_;clear S;intro a S
     refine s_done ?_
     replace S := S.nk [.blk b2 (GSwimmer.enc y1) 38] [(0, Ae), (4, .pointer (some ⟨b2, 0, none⟩)), (8, Ae), (9, iV (Aj.length : Int)), (10, iV (i1 : Int)), (20, bV c1)] [true] rfl (subR rfl)
     refine Tn (f_cond (S.tm rfl) (fun hb4 => ?_) (fun hb4 => ?_))
     ·replace h := iteT h hb4
      refine Fs (Fg (lv S (Ra rfl) rfl ?_));clear S;intro a S
      refine Ld (Tn (wp_ret (blk_r (blk_r (then_r (then_r ?_))))))
      refine blk_r (then_r (then_r ?_))
      obtain rfl := Option.some.inj h
      exact f_ret S Tryz.results20 rfl rfl
     ·replace h := iteF h hb4
      refine Fs (Fg (lv S (rn_fld fa_38_1 (S.tm rfl)) rfl ?_));clear S;intro a S
      refine lv S (rn_load Tryz.isAgg3 (S.tm rfl) (S.cell (i := 0) rfl rfl)) rfl ?_;clear S;intro a S
      refine lv S (rn_neq (S.tm rfl) rfl) rfl ?_;clear S;intro a S
      refine lv S (Rm (S.tm rfl)) rfl ?_;clear S;intro a S
      refine f_cutm 4 (fun a w' => Keep [] w7 w' ∧ Sx w [] nov [.blk b2 (GSwimmer.enc y1) 38] [(0, Ae), (4, .pointer (some ⟨b2, 0, none⟩)), (8, Ae), (9, iV (Aj.length : Int)), (10, iV (i1 : Int)), (42, bV ((!decide (y1.Sex = 1)) && (!decide (y1.Sex = 2))))] 50 a w') ?_ ?_
      ·rcases Bool.eq_false_or_eq_true (!decide (y1.Sex = 1)) with hb5 | hb5
       ·refine l_want S rfl rfl rfl hb5 (lv S (rn_fld fa_38_1 (S.tm rfl)) rfl ?_);clear S;intro a S
        refine l_want S rfl rfl rfl hb5 (lv S (rn_load Tryz.isAgg3 (S.tm rfl) (S.cell (i := 0) rfl rfl)) rfl ?_);clear S;intro a S
        refine l_want S rfl rfl rfl hb5 (lv S (rn_neq (S.tm rfl) rfl) rfl ?_);clear S;intro a S
        refine lv S (rn_and_t hb5 (S.tm rfl) (S.tm rfl)) rfl ?_;clear S;intro a S
        refine Ld (Tn ?_)
        exact ⟨Keep.refl _ _, S.nf [true] rfl (subR rfl)⟩
       ·iterate 3 (refine l_skip S rfl rfl rfl (neq_f hb5) rfl ?_ rfl;clear S;intro a S)
        refine lv S (rn_and_f (!decide (y1.Sex = 2)) hb5 (S.tm rfl) rfl) rfl ?_;clear S;intro a S
        refine Ld (Tn ?_)
        exact ⟨Keep.refl _ _, S.nf [true] rfl (subR rfl)⟩
      clear S;rintro a w8 ⟨hk6, S⟩
      refine lv S (Rm (S.tm rfl)) rfl ?_;clear S;intro a S
      refine f_cutm 5 (fun a w' => Keep [] w8 w' ∧ Sx w [] nov [.blk b2 (GSwimmer.enc y1) 38] [(0, Ae), (8, Ae), (9, iV (Aj.length : Int)), (10, iV (i1 : Int)), (48, bV (((!decide (y1.Sex = 1)) && (!decide (y1.Sex = 2))) || (!(swimmer_isDay y1.Born))))] 50 a w') ?_ ?_
      ·rcases Bool.eq_false_or_eq_true ((!decide (y1.Sex = 1)) && (!decide (y1.Sex = 2))) with hb6 | hb6
       ·iterate 4 (refine l_skip S rfl rfl rfl (neq_t hb6) rfl ?_ rfl;clear S;intro a S)
        refine lv S (rn_or_t (!(swimmer_isDay y1.Born)) hb6 (S.tm rfl) rfl) rfl ?_;clear S;intro a S
        refine Ld (Tn ?_)
        exact ⟨Keep.refl _ _, S.nf [true] rfl (subR rfl)⟩
       ·refine l_want S rfl rfl rfl hb6 (lv S (rn_fld fa_38_2 (S.tm rfl)) rfl ?_);clear S;intro a S
        refine l_want S rfl rfl rfl hb6 (lv S (rn_load Tryz.isAgg3 (S.tm rfl) (S.cell (i := 0) rfl rfl)) rfl ?_);clear S;intro a S
        refine l_want S rfl rfl rfl hb6 (l_enter S (fun _ => run_call (vs := [iV y1.Born]) ⟨(S.tm rfl), trivial⟩ Tryz.call48) (swimmer_isDay_ok _ y1.Born _ rfl) rfl ?_);clear S;intro v2 a w10 hv2 hk7 hn2 S
        subst hv2
        refine l_want S rfl rfl rfl hb6 (lv S (rn_not (S.tm rfl)) rfl ?_);clear S;intro a S
        refine lv S (rn_or_f hb6 (S.tm rfl) (S.tm rfl)) rfl ?_;clear S;intro a S
        refine Ld (Tn ?_)
        exact ⟨hk7, S.nf [true] rfl (subR rfl)⟩
      clear S;rintro a w9 ⟨hk8, S⟩
      refine lv S (Ra (S.tm rfl)) rfl ?_;clear S;intro a S
      refine Ld (Tn (f_cond (S.tm rfl) (fun hb7 => ?_) (fun hb7 => ?_)))
      ·replace h := iteT h hb7
       refine Fs (Fg (lv S (Ra rfl) rfl ?_));clear S;intro a S
       refine Ld (Tn (wp_ret (blk_r (blk_r (then_r (then_r ?_))))))
       refine blk_r (then_r (then_r ?_))
       obtain rfl := Option.some.inj h
       exact f_ret S Tryz.results20 rfl rfl
      ·replace h := iteF h hb7
       refine wp_skip (blk_n (blk_n (Tn (Fg (lv S (rn_add (S.tm rfl) rfl) rfl ?_)))));clear S;intro a S
       refine lv S (Rm (S.tm rfl)) rfl ?_;clear S;intro a S
       refine Ld (Tn ?_)
       exact ⟨ys1, ⟨i1 + 1, ⟨_, (hd1).trans (List.append_cons _ _ _), by simp [hi1]⟩, h, S.nf [false] rfl ⟨rfl, rfl, rfl, (congrArg (fun z => some (Value.int .i64 z)) (rng_next hd1 hi1 (slc_max Ao))), trivial⟩⟩, Nat.lt_succ_self _⟩
  clear S h;rintro a w2 ⟨h, S⟩;rw [hj1] at h;clear hj1 j1
  refine Tn (Fs (Fg (lv S (Ra rfl) rfl ?_)));clear S;intro a S
  refine Ld (Tn (wp_ret ?_))
  obtain rfl := Option.some.inj h
  exact f_ret S Tryz.results20 rfl rfl
theorem swimmer_leap_ok (w : World) (Aq : Int) (r : Bool) (h : swimmer_leap Aq = r) :
    Calls Tryz.prog 67 [iV Aq].toArray w (Ret w [] fun _ v _ => v = bV r) := by
 refine f_enter [] [] Tryz.func67 rfl Tryz.ntmps67 rfl (by simp) (by simp [fps]) (by simp [fps]) fun a S => ?_
 unfold swimmer_leap at h
 replace S := S.nk [] [(0, iV Aq)] [] rfl ⟨rfl, trivial⟩
 refine Fs (Fg (lv S (Ra rfl) rfl ?_));clear S;intro a S
 refine Ld (Tn (Fs (Fg (lv S (Rm (S.tm rfl)) rfl ?_))));clear S;intro a S
 refine lv S (rn_rem (S.tm rfl) rfl (by decide)) rfl ?_;clear S;intro a S
 refine lv S (rn_eql (S.tm rfl) rfl) rfl ?_;clear S;intro a S
 refine lv S (Rm (S.tm rfl)) rfl ?_;clear S;intro a S
 refine f_cutm 9 (fun a w' => Keep [] w w' ∧ Sx w [] nov [] [(15, bV ((decide ((Int.tmod Aq 4) = 0)) && ((!decide ((Int.tmod Aq 100) = 0)) || (decide ((Int.tmod Aq 400) = 0)))))] 16 a w') ?_ ?_
 ·rcases Bool.eq_false_or_eq_true (decide ((Int.tmod Aq 4) = 0)) with hb1 | hb1
  ·refine l_want S rfl rfl rfl hb1 (lv S (Rm (S.tm rfl)) rfl ?_);clear S;intro a S
   refine l_want S rfl rfl rfl hb1 (lv S (rn_rem (S.tm rfl) rfl (by decide)) rfl ?_);clear S;intro a S
   refine l_want S rfl rfl rfl hb1 (lv S (rn_neq (S.tm rfl) rfl) rfl ?_);clear S;intro a S
   refine l_want S rfl rfl rfl hb1 (lv S (Rm (S.tm rfl)) rfl ?_);clear S;intro a S
   refine f_cutm 4 (fun a w' => Keep [] w w' ∧ Sx w [] nov [] [(6, bV (decide ((Int.tmod Aq 4) = 0))), (14, bV ((!decide ((Int.tmod Aq 100) = 0)) || (decide ((Int.tmod Aq 400) = 0))))] 16 a w') ?_ ?_
   ·rcases Bool.eq_false_or_eq_true (!decide ((Int.tmod Aq 100) = 0)) with hb2 | hb2
    ·iterate 3 (refine l_skip S rfl rfl rfl (neq_t hb2) rfl ?_ rfl;clear S;intro a S)
     refine l_want S rfl rfl rfl hb1 (lv S (rn_or_t (decide ((Int.tmod Aq 400) = 0)) hb2 (S.tm rfl) rfl) rfl ?_);clear S;intro a S
     refine Ld (Tn ?_)
     exact ⟨Keep.refl _ _, S.nf [] rfl (subR rfl)⟩
    ·refine l_want S rfl rfl rfl hb2 (lv S (Rm (S.tm rfl)) rfl ?_);clear S;intro a S
     refine l_want S rfl rfl rfl hb2 (lv S (rn_rem (S.tm rfl) rfl (by decide)) rfl ?_);clear S;intro a S
     refine l_want S rfl rfl rfl hb2 (lv S (rn_eql (S.tm rfl) rfl) rfl ?_);clear S;intro a S
     refine l_want S rfl rfl rfl hb1 (lv S (rn_or_f hb2 (S.tm rfl) (S.tm rfl)) rfl ?_);clear S;intro a S
     refine Ld (Tn ?_)
     exact ⟨Keep.refl _ _, S.nf [] rfl (subR rfl)⟩
   clear S;rintro a w2 ⟨hk1, S⟩
   refine lv S (rn_and_t hb1 (S.tm rfl) (S.tm rfl)) rfl ?_;clear S;intro a S
   refine Ld (Tn ?_)
   exact ⟨hk1, S.nf [] rfl ⟨rfl, trivial⟩⟩
  ·iterate 4 (refine l_skip S rfl rfl rfl (neq_f hb1) rfl ?_ rfl;clear S;intro a S)
   iterate 3 (refine l_skipU S rfl rfl rfl rfl ?_;clear S;intro a S)
   refine l_skip S rfl rfl rfl (neq_f hb1) rfl ?_ rfl;clear S;intro a S
   refine lv S (rn_and_f ((!decide ((Int.tmod Aq 100) = 0)) || (decide ((Int.tmod Aq 400) = 0))) hb1 (S.tm rfl) rfl) rfl ?_;clear S;intro a S
   refine Ld (Tn ?_)
   exact ⟨Keep.refl _ _, S.nf [] rfl ⟨rfl, trivial⟩⟩
 clear S;rintro a w1 ⟨hk2, S⟩
 refine lv S (Ra (S.tm rfl)) rfl ?_;clear S;intro a S
 refine Ld (Tn (wp_ret ?_))
 subst h
 exact f_ret S Tryz.results67 rfl rfl
theorem swimmer_yearLong_ok (w : World) (Aq : Int) (r : Int) (h : swimmer_yearLong Aq = r) :
    Calls Tryz.prog 49 [iV Aq].toArray w (Ret w [] fun _ v _ => v = iV r) := by
 refine f_enter [] [] Tryz.func49 rfl Tryz.ntmps49 rfl (by simp) (by simp [fps]) (by simp [fps]) fun a S => ?_
 unfold swimmer_yearLong at h
 replace S := S.nk [] [(0, iV Aq)] [] rfl ⟨rfl, trivial⟩
 refine Fs (Fg (lv S (Ra rfl) rfl ?_));clear S;intro a S
 refine Ld (Tn (Fs (Fs (Fg (lv S (Rm (S.tm rfl)) rfl ?_)))));clear S;intro a S
 refine l_enter S (fun _ => run_call (vs := [iV Aq]) ⟨(S.tm rfl), trivial⟩ Tryz.call67) (swimmer_leap_ok _ Aq _ rfl) rfl ?_;clear S;intro v1 a w1 hv1 hk1 hn1 S
 subst hv1
 refine Ld (Tn (f_cond (S.tm rfl) (fun hb1 => ?_) (fun hb1 => ?_)))
 ·replace h := iteT h hb1
  refine Fs (Fg (lv S (Ra rfl) rfl ?_));clear S;intro a S
  refine Ld (Tn (wp_ret (then_r ?_)))
  subst h
  exact f_ret S Tryz.results49 rfl rfl
 ·replace h := iteF h hb1
  refine wp_skip (Tn (Fs (Fg (lv S (Ra rfl) rfl ?_))));clear S;intro a S
  refine Ld (Tn (wp_ret ?_))
  subst h
  exact f_ret S Tryz.results49 rfl rfl
theorem swimmer_long_ok (w : World) (Aq : Int) (Bg : Int) (r : Int) (h : swimmer_long Aq Bg = r) :
    Calls Tryz.prog 50 [iV Aq, iV Bg].toArray w (Ret w [] fun _ v _ => v = iV r) := by
 refine f_enter [] [] Tryz.func50 rfl Tryz.ntmps50 rfl (by simp) (by simp [fps]) (by simp [fps]) fun a S => ?_
 unfold swimmer_long at h
 replace S := S.nk [] [(0, iV Aq), (1, iV Bg)] [] rfl (subR rfl)
 refine Fs (Fg (lv S (Ra rfl) rfl ?_));clear S;intro a S
 refine Ld (Tn (Fs (Fs (Fg (lv S (Rm (S.tm rfl)) rfl ?_)))));clear S;intro a S
 refine Ld (Tn (wp_block (Fs (Fg (lv S (rn_eql (S.tm rfl) rfl) rfl ?_)))));clear S;intro a S
 refine lv S (Ra (S.tm rfl)) rfl ?_;clear S;intro a S
 refine Ld (Tn (f_cond (S.tm rfl) (fun hb1 => ?_) (fun hb1 => ?_)))
 ·replace h := iteT h hb1
  refine Fs (Fs (Fg (lv S (Rm (S.tm rfl)) rfl ?_)));clear S;intro a S
  refine l_enter S (fun _ => run_call (vs := [iV Aq]) ⟨(S.tm rfl), trivial⟩ Tryz.call67) (swimmer_leap_ok _ Aq _ rfl) rfl ?_;clear S;intro v1 a w1 hv1 hk1 hn1 S
  subst hv1
  refine Ld (Tn (f_cond (S.tm rfl) (fun hb2 => ?_) (fun hb2 => ?_)))
  ·replace h := iteT h hb2
   refine Fs (Fg (lv S (Ra rfl) rfl ?_));clear S;intro a S
   refine Ld (Tn (wp_ret (then_r (blk_r (then_r ?_)))))
   subst h
   exact f_ret S Tryz.results50 rfl rfl
  ·replace h := iteF h hb2
   refine wp_skip (Tn (Fs (Fg (lv S (Ra rfl) rfl ?_))));clear S;intro a S
   refine Ld (Tn (wp_ret (blk_r (then_r ?_))))
   subst h
   exact f_ret S Tryz.results50 rfl rfl
 ·replace h := iteF h hb1
  refine Fs (Fs (Fg (lv S (rn_eql (S.tm rfl) rfl) rfl ?_)));clear S;intro a S
  refine lv S (Ra (S.tm rfl)) rfl ?_;clear S;intro a S
  refine Ld (Tn ?_)
  obtain ⟨j1, hj1, h⟩ := joinE h
  refine f_join (fun a w' => ∃ x1 : Bool, j1 x1 = r ∧ Sx w [] nov [] [(10, bV x1)] 15 a w') ?_ ?_
  ·refine f_cond (S.tm rfl) (fun hb3 => ?_) (fun hb3 => ?_)
   ·replace h := iteT h hb3
    refine wp_skip (Tn ?_)
    exact ⟨decide (Bg = 4), h, S.nf [] rfl ⟨rfl, trivial⟩⟩
   ·replace h := iteF h hb3
    refine Fs (Fg (lv S (rn_eql (S.tm rfl) rfl) rfl ?_));clear S;intro a S
    refine lv S (Ra (S.tm rfl)) rfl ?_;clear S;intro a S
    refine Ld (Tn ?_)
    obtain ⟨j2, hj2, h⟩ := joinE h
    refine f_join (fun a w' => ∃ x2 : Bool, j2 x2 = r ∧ Sx w [] nov [] [(10, bV x2)] 15 a w') ?_ ?_
    ·refine f_cond (S.tm rfl) (fun hb4 => ?_) (fun hb4 => ?_)
     ·replace h := iteT h hb4
      refine wp_skip (Tn ?_)
      exact ⟨decide (Bg = 6), h, S.nf [] rfl ⟨rfl, trivial⟩⟩
     ·replace h := iteF h hb4
      refine Fs (Fg (lv S (rn_eql (S.tm rfl) rfl) rfl ?_));clear S;intro a S
      refine lv S (Ra (S.tm rfl)) rfl ?_;clear S;intro a S
      refine Ld (Tn ?_)
      obtain ⟨j3, hj3, h⟩ := joinE h
      refine f_join (fun a w' => ∃ x3 : Bool, j3 x3 = r ∧ Sx w [] nov [] [(10, bV x3)] 15 a w') ?_ ?_
      ·refine f_cond (S.tm rfl) (fun hb5 => ?_) (fun hb5 => ?_)
       ·replace h := iteT h hb5
        refine wp_skip (Tn ?_)
        exact ⟨decide (Bg = 9), h, S.nf [] rfl ⟨rfl, trivial⟩⟩
       ·replace h := iteF h hb5
        refine Fg (lv S (rn_eql (S.tm rfl) rfl) rfl ?_);clear S;intro a S
        refine lv S (Ra (S.tm rfl)) rfl ?_;clear S;intro a S
        refine Ld (Tn ?_)
        exact ⟨decide (Bg = 11), h, S.nf [] rfl ⟨rfl, trivial⟩⟩
      clear S h;rintro a w4 ⟨x3, h, S⟩;rw [hj3] at h;clear hj3 j3
      refine Tn ?_
      exact ⟨x3, h, S.nf [] rfl ⟨rfl, trivial⟩⟩
    clear S h;rintro a w3 ⟨x2, h, S⟩;rw [hj2] at h;clear hj2 j2
    refine Tn ?_
    exact ⟨x2, h, S.nf [] rfl ⟨rfl, trivial⟩⟩
  clear S h;rintro a w2 ⟨x1, h, S⟩;rw [hj1] at h;clear hj1 j1
  refine Tn (f_cond (S.tm rfl) (fun hb6 => ?_) (fun hb6 => ?_))
  ·replace h := iteT h hb6
   refine Fs (Fg (lv S (Ra rfl) rfl ?_));clear S;intro a S
   refine Ld (Tn (wp_ret (blk_r (then_r ?_))))
   subst h
   exact f_ret S Tryz.results50 rfl rfl
  ·replace h := iteF h hb6
   refine wp_skip (blk_n (Tn (Fs (Fg (lv S (Ra rfl) rfl ?_)))));clear S;intro a S
   refine Ld (Tn (wp_ret ?_))
   subst h
   exact f_ret S Tryz.results50 rfl rfl
theorem swimmer_dateOf_ok (w : World) (Aw : Int) (r : GDate) (h : swimmer_dateOf Aw = some r) :
    Calls Tryz.prog 21 [iV Aw].toArray w (Ret w [] fun _ v _ => v = .agg (GDate.enc r).toArray) := by
 refine f_enter [] [] Tryz.func21 rfl Tryz.ntmps21 rfl (by simp) (by simp [fps]) (by simp [fps]) fun a S => ?_
 unfold swimmer_dateOf at h
 replace S := S.nk [] [(0, iV Aw)] [] rfl ⟨rfl, trivial⟩
 refine Fs (Fg (l_alloc S Tryz.zeroValue53 (cs := [iV 0, iV 0, iV 0]) rfl rfl ?_));clear S;intro a w1 b1 hz1 hk1 S
 refine Ld (Tn (Fs (Fg (lv S (rn_bld bt_53 (pv := [(0, iV 2024), (1, iV 1)]) ⟨rfl, rfl, rfl, rfl, trivial⟩ (cs := [iV 2024, iV 1, iV 0]) (by kernel_rfl)) rfl ?_))));clear S;intro a S
 refine l_alloc S Tryz.zeroValue53 (cs := [iV 0, iV 0, iV 0]) rfl rfl ?_;clear S;intro a w2 b2 hz2 hk2 S
 refine l_store S (S.tm rfl) (S.tm rfl) (i := 0) (off := 0) rfl Tryz.sizeOf53 (vs := [iV 2024, iV 1, iV 0]) rfl rfl rfl rfl ?_;clear S;intro w3 hk3 S
 refine Ld (Tn (Fs ?_))
 replace S := S.nk [.blk b2 [iV 2024, iV 1, iV 0] 53, .blk b1 [iV 0, iV 0, iV 0] 53] [(0, iV Aw), (2, .pointer (some ⟨b1, 0, none⟩)), (3, .pointer (some ⟨b2, 0, none⟩))] [true, true] rfl (subR rfl)
 obtain ⟨j1, hj1, h⟩ := joinE h
 refine f_join (fun a w' => ∃ x1 : Int, ∃ x2 : Int, j1 x1 x2 = some r ∧ Sx w [] nov [.blk b2 [iV x1, iV 1, iV 0] 53, .blk b1 [iV 0, iV 0, iV 0] 53] [(0, iV x2), (2, .pointer (some ⟨b1, 0, none⟩)), (3, .pointer (some ⟨b2, 0, none⟩))] 52 a w') ?_ ?_
 ·refine wp_block (f_loop (fun (m1 : Nat) a w' => ∃ x1 : Int, ∃ x2 : Int, swimmer_dateOf_l1 j1 m1 x1 x2 = some r ∧ Sx w [] nov [.blk b2 [iV x1, iV 1, iV 0] 53, .blk b1 [iV 0, iV 0, iV 0] 53] [(0, iV x2), (2, .pointer (some ⟨b1, 0, none⟩)), (3, .pointer (some ⟨b2, 0, none⟩))] 52 a w') id ((0 - Aw).toNat + 2) ⟨2024, Aw, h, S.nf [true, true] rfl (subR rfl)⟩ ?_)
  clear S h;rintro m1 a w4 ⟨x1, x2, h, S⟩
  cases m1 with
  | zero => rw [swimmer_dateOf_l1.eq_1] at h;cases h
  | succ m1 =>
   rw [swimmer_dateOf_l1.eq_2] at h
   refine Fs (Fs (Fg (lv S (Rm (S.tm rfl)) rfl ?_)));clear S;intro a S
   refine lv S (rn_lss (S.tm rfl) rfl) rfl ?_;clear S;intro a S
   refine Ld (Tn (f_cond (S.tm rfl) (fun hb1 => ?_) (fun hb1 => ?_)))
   ·replace h := iteT h hb1
    refine wp_skip (Tn (wp_block (Fs (Fg (lv S (rn_fld fa_53_0 (S.tm rfl)) rfl ?_)))));clear S;intro a S
    refine lv S (rn_load Tryz.isAgg3 (S.tm rfl) (S.cell (i := 0) rfl rfl)) rfl ?_;clear S;intro a S
    refine lv S (rn_sub (S.tm rfl) rfl) rfl ?_;clear S;intro a S
    refine lv S (rn_fld fa_53_0 (S.tm rfl)) rfl ?_;clear S;intro a S
    refine l_store S (S.tm rfl) (S.tm rfl) (i := 0) (off := 0) rfl Tryz.sizeOf3 (vs := [iV (W (x1 - 1))]) rfl rfl rfl rfl ?_;clear S;intro w6 hk4 S
    refine Ld (Tn (Fg (lv S (Rm (S.tm rfl)) rfl ?_)));clear S;intro a S
    refine lv S (rn_fld fa_53_0 (S.tm rfl)) rfl ?_;clear S;intro a S
    refine lv S (rn_load Tryz.isAgg3 (S.tm rfl) (S.cell (i := 0) rfl rfl)) rfl ?_;clear S;intro a S
    refine l_enter S (fun _ => run_call (vs := [iV (W (x1 - 1))]) ⟨(S.tm rfl), trivial⟩ Tryz.call49) (swimmer_yearLong_ok _ (W (x1 - 1)) _ rfl) rfl ?_;clear S;intro v1 a w7 hv1 hk5 hn1 S
    subst hv1
    refine lv S (rn_add (S.tm rfl) (S.tm rfl)) rfl ?_;clear S;intro a S
    refine lv S (Ra (S.tm rfl)) rfl ?_;clear S;intro a S
    refine Ld (blk_n (Tn ?_))
    exact ⟨m1, ⟨W (x1 - 1), W (x2 + (swimmer_yearLong (W (x1 - 1)))), h, S.nf [true, true] rfl ⟨rfl, rfl, rfl, trivial⟩⟩, Nat.lt_succ_self _⟩
   ·replace h := iteF h hb1
    refine wp_exit (then_x (then_x (x_same (Tn ?_))))
    exact ⟨x1, x2, h, S.nf [true, true] rfl (subR rfl)⟩
 clear S h;rintro a w5 ⟨x1, x2, h, S⟩;rw [hj1] at h;clear hj1 j1
 refine Tn (Fs ?_)
 obtain ⟨j2, hj2, h⟩ := joinE h
 refine f_join (fun a w' => ∃ x3 : Int, ∃ x4 : Int, j2 x3 x4 = some r ∧ Sx w [] nov [.blk b2 [iV x3, iV 1, iV 0] 53, .blk b1 [iV 0, iV 0, iV 0] 53] [(0, iV x4), (2, .pointer (some ⟨b1, 0, none⟩)), (3, .pointer (some ⟨b2, 0, none⟩))] 52 a w') ?_ ?_
 ·refine wp_block (f_loop (fun (m2 : Nat) a w' => ∃ x3 : Int, ∃ x4 : Int, swimmer_dateOf_l2 j2 m2 x3 x4 = some r ∧ Sx w [] nov [.blk b2 [iV x3, iV 1, iV 0] 53, .blk b1 [iV 0, iV 0, iV 0] 53] [(0, iV x4), (2, .pointer (some ⟨b1, 0, none⟩)), (3, .pointer (some ⟨b2, 0, none⟩))] 52 a w') id ((x2 - (swimmer_yearLong x1)).toNat + 2) ⟨x1, x2, h, S.nf [true, true] rfl (subR rfl)⟩ ?_)
  clear S h;rintro m2 a w8 ⟨x3, x4, h, S⟩
  cases m2 with
  | zero => rw [swimmer_dateOf_l2.eq_1] at h;cases h
  | succ m2 =>
   rw [swimmer_dateOf_l2.eq_2] at h
   refine Fs (Fs (Fg (lv S (Rm (S.tm rfl)) rfl ?_)));clear S;intro a S
   refine lv S (rn_fld fa_53_0 (S.tm rfl)) rfl ?_;clear S;intro a S
   refine lv S (rn_load Tryz.isAgg3 (S.tm rfl) (S.cell (i := 0) rfl rfl)) rfl ?_;clear S;intro a S
   refine l_enter S (fun _ => run_call (vs := [iV x3]) ⟨(S.tm rfl), trivial⟩ Tryz.call49) (swimmer_yearLong_ok _ x3 _ rfl) rfl ?_;clear S;intro v2 a w10 hv2 hk6 hn2 S
   subst hv2
   refine lv S (rn_geq (S.tm rfl) (S.tm rfl)) rfl ?_;clear S;intro a S
   refine Ld (Tn (f_cond (S.tm rfl) (fun hb2 => ?_) (fun hb2 => ?_)))
   ·replace h := iteT h hb2
    refine wp_skip (Tn (wp_block (Fs (Fg (lv S (Rm (S.tm rfl)) rfl ?_)))));clear S;intro a S
    refine lv S (rn_fld fa_53_0 (S.tm rfl)) rfl ?_;clear S;intro a S
    refine lv S (rn_load Tryz.isAgg3 (S.tm rfl) (S.cell (i := 0) rfl rfl)) rfl ?_;clear S;intro a S
    refine l_enter S (fun _ => run_call (vs := [iV x3]) ⟨(S.tm rfl), trivial⟩ Tryz.call49) (swimmer_yearLong_ok _ x3 _ rfl) rfl ?_;clear S;intro v3 a w11 hv3 hk7 hn3 S
    subst hv3
    refine lv S (rn_sub (S.tm rfl) (S.tm rfl)) rfl ?_;clear S;intro a S
    refine lv S (Ra (S.tm rfl)) rfl ?_;clear S;intro a S
    refine Ld (Tn (Fg (lv S (rn_fld fa_53_0 (S.tm rfl)) rfl ?_)));clear S;intro a S
    refine lv S (rn_load Tryz.isAgg3 (S.tm rfl) (S.cell (i := 0) rfl rfl)) rfl ?_;clear S;intro a S
    refine lv S (rn_add (S.tm rfl) rfl) rfl ?_;clear S;intro a S
    refine lv S (rn_fld fa_53_0 (S.tm rfl)) rfl ?_;clear S;intro a S
    refine l_store S (S.tm rfl) (S.tm rfl) (i := 0) (off := 0) rfl Tryz.sizeOf3 (vs := [iV (W (x3 + 1))]) rfl rfl rfl rfl ?_;clear S;intro w12 hk8 S
    refine Ld ?_
    replace S := S.nk [.blk b2 [iV (W (x3 + 1)), iV 1, iV 0] 53, .blk b1 [iV 0, iV 0, iV 0] 53] [(0, iV (W (x4 - (swimmer_yearLong x3)))), (2, .pointer (some ⟨b1, 0, none⟩)), (3, .pointer (some ⟨b2, 0, none⟩))] [true, true] rfl (subR rfl)
    refine blk_n (Tn ?_)
    exact ⟨m2, ⟨W (x3 + 1), W (x4 - (swimmer_yearLong x3)), h, S.nf [true, true] rfl ⟨rfl, rfl, rfl, trivial⟩⟩, Nat.lt_succ_self _⟩
   ·replace h := iteF h hb2
    refine wp_exit (then_x (then_x (x_same (Tn ?_))))
    exact ⟨x3, x4, h, S.nf [true, true] rfl (subR rfl)⟩
 clear S h;rintro a w9 ⟨x3, x4, h, S⟩;rw [hj2] at h;clear hj2 j2
 refine Tn (Fs ?_)
 obtain ⟨j3, hj3, h⟩ := joinE h
 refine f_join (fun a w' => ∃ x5 : Int, ∃ x6 : Int, j3 x5 x6 = some r ∧ Sx w [] nov [.blk b2 [iV x3, iV x5, iV 0] 53, .blk b1 [iV 0, iV 0, iV 0] 53] [(0, iV x6), (2, .pointer (some ⟨b1, 0, none⟩)), (3, .pointer (some ⟨b2, 0, none⟩))] 52 a w') ?_ ?_
 ·refine wp_block (f_loop (fun (m3 : Nat) a w' => ∃ x5 : Int, ∃ x6 : Int, swimmer_dateOf_l3 x3 j3 m3 x5 x6 = some r ∧ Sx w [] nov [.blk b2 [iV x3, iV x5, iV 0] 53, .blk b1 [iV 0, iV 0, iV 0] 53] [(0, iV x6), (2, .pointer (some ⟨b1, 0, none⟩)), (3, .pointer (some ⟨b2, 0, none⟩))] 52 a w') id ((x4 - (swimmer_long x3 1)).toNat + 2) ⟨1, x4, h, S.nf [true, true] rfl (subR rfl)⟩ ?_)
  clear S h;rintro m3 a w13 ⟨x5, x6, h, S⟩
  cases m3 with
  | zero => rw [swimmer_dateOf_l3.eq_1] at h;cases h
  | succ m3 =>
   rw [swimmer_dateOf_l3.eq_2] at h
   refine Fs (Fs (Fg (lv S (Rm (S.tm rfl)) rfl ?_)));clear S;intro a S
   refine lv S (rn_fld fa_53_0 (S.tm rfl)) rfl ?_;clear S;intro a S
   refine lv S (rn_load Tryz.isAgg3 (S.tm rfl) (S.cell (i := 0) rfl rfl)) rfl ?_;clear S;intro a S
   refine lv S (rn_fld fa_53_1 (S.tm rfl)) rfl ?_;clear S;intro a S
   refine lv S (rn_load Tryz.isAgg3 (S.tm rfl) (S.cell (i := 0) rfl rfl)) rfl ?_;clear S;intro a S
   refine l_enter S (fun _ => run_call (vs := [iV x3, iV x5]) ⟨(S.tm rfl), (S.tm rfl), trivial⟩ Tryz.call50) (swimmer_long_ok _ x3 x5 _ rfl) rfl ?_;clear S;intro v4 a w15 hv4 hk9 hn4 S
   subst hv4
   refine lv S (rn_geq (S.tm rfl) (S.tm rfl)) rfl ?_;clear S;intro a S
   refine Ld (Tn (f_cond (S.tm rfl) (fun hb3 => ?_) (fun hb3 => ?_)))
   ·replace h := iteT h hb3
    refine wp_skip (Tn (wp_block (Fs (Fg (lv S (Rm (S.tm rfl)) rfl ?_)))));clear S;intro a S
    refine lv S (rn_fld fa_53_0 (S.tm rfl)) rfl ?_;clear S;intro a S
    refine lv S (rn_load Tryz.isAgg3 (S.tm rfl) (S.cell (i := 0) rfl rfl)) rfl ?_;clear S;intro a S
    refine lv S (rn_fld fa_53_1 (S.tm rfl)) rfl ?_;clear S;intro a S
    refine lv S (rn_load Tryz.isAgg3 (S.tm rfl) (S.cell (i := 0) rfl rfl)) rfl ?_;clear S;intro a S
    refine l_enter S (fun _ => run_call (vs := [iV x3, iV x5]) ⟨(S.tm rfl), (S.tm rfl), trivial⟩ Tryz.call50) (swimmer_long_ok _ x3 x5 _ rfl) rfl ?_;clear S;intro v5 a w16 hv5 hk10 hn5 S
    subst hv5
    refine lv S (rn_sub (S.tm rfl) (S.tm rfl)) rfl ?_;clear S;intro a S
    refine lv S (Ra (S.tm rfl)) rfl ?_;clear S;intro a S
    refine Ld ?_
    replace S := S.nk [.blk b2 [iV x3, iV x5, iV 0] 53, .blk b1 [iV 0, iV 0, iV 0] 53] [(0, iV (W (x6 - (swimmer_long x3 x5)))), (2, .pointer (some ⟨b1, 0, none⟩)), (3, .pointer (some ⟨b2, 0, none⟩))] [true, true] rfl (subR rfl)
    refine Tn (Fg (lv S (rn_fld fa_53_1 (S.tm rfl)) rfl ?_));clear S;intro a S
    refine lv S (rn_load Tryz.isAgg3 (S.tm rfl) (S.cell (i := 0) rfl rfl)) rfl ?_;clear S;intro a S
    refine lv S (rn_add (S.tm rfl) rfl) rfl ?_;clear S;intro a S
    refine lv S (rn_fld fa_53_1 (S.tm rfl)) rfl ?_;clear S;intro a S
    refine l_store S (S.tm rfl) (S.tm rfl) (i := 0) (off := 1) rfl Tryz.sizeOf3 (vs := [iV (W (x5 + 1))]) rfl rfl rfl rfl ?_;clear S;intro w17 hk11 S
    refine Ld (blk_n (Tn ?_))
    exact ⟨m3, ⟨W (x5 + 1), W (x6 - (swimmer_long x3 x5)), h, S.nf [true, true] rfl ⟨rfl, rfl, rfl, trivial⟩⟩, Nat.lt_succ_self _⟩
   ·replace h := iteF h hb3
    refine wp_exit (then_x (then_x (x_same (Tn ?_))))
    exact ⟨x5, x6, h, S.nf [true, true] rfl (subR rfl)⟩
 clear S h;rintro a w14 ⟨x5, x6, h, S⟩;rw [hj3] at h;clear hj3 j3
 refine Tn (Fs (Fg (lv S (Rm (S.tm rfl)) rfl ?_)));clear S;intro a S
 refine lv S (rn_add (S.tm rfl) rfl) rfl ?_;clear S;intro a S
 refine lv S (rn_fld fa_53_2 (S.tm rfl)) rfl ?_;clear S;intro a S
 refine l_store S (S.tm rfl) (S.tm rfl) (i := 0) (off := 2) rfl Tryz.sizeOf3 (vs := [iV (W (x6 + 1))]) rfl rfl rfl rfl ?_;clear S;intro w18 hk12 S
 refine Ld (Tn (Fs (Fg (lv S (rn_ldA Tryz.isAgg53 Tryz.sizeOf53 (off := 0) (o := 0) (part := [iV x3, iV x5, iV (W (x6 + 1))]) rfl rfl (S.tm rfl) (S.cellsAt (i := 0) rfl)) rfl ?_))));clear S;intro a S
 refine l_store S (S.tm rfl) (S.tm rfl) (i := 1) (off := 0) rfl Tryz.sizeOf53 (vs := [iV x3, iV x5, iV (W (x6 + 1))]) rfl rfl rfl rfl ?_;clear S;intro w19 hk13 S
 refine Ld (Tn (wp_ret ?_))
 obtain rfl := Option.some.inj h
 exact f_retG S (rs := [.cell 2 53]) (vs := [.agg #[iV x3, iV x5, iV (W (x6 + 1))]]) Tryz.results21 ⟨(res_cell (off := 0) S rfl Tryz.isAgg53 Tryz.sizeOf53 rfl (S.cellsAt (i := 1) rfl)), trivial⟩ rfl rfl
theorem swimmer_padded_ok (w : World) (Al : Int) (Bc : Int) (hg_pow10 : Glob (view w []) 3 pow10Cells) (r : ByteArray) (h : swimmer_padded Al Bc = some r) :
    Calls Tryz.prog 23 [iV Al, iV Bc].toArray w (Ret w [] fun _ v _ => v = sV r) := by
 refine f_enter [] [] Tryz.func23 rfl Tryz.ntmps23 rfl (by simp) (by simp [fps]) (by simp [fps]) fun a S => ?_
 unfold swimmer_padded at h
 replace S := S.nk [] [(0, iV Al), (1, iV Bc)] [] rfl (subR rfl)
 refine Fs (Fg (lv S (Ra rfl) rfl ?_));clear S;intro a S
 refine Ld (Tn (Fs (Fg (lv S (Rm (S.tm rfl)) rfl ?_))));clear S;intro a S
 obtain ⟨r1, hr1, h⟩ := bindE h
 refine l_enter S (fun _ => run_call (vs := [iV Al]) ⟨(S.tm rfl), trivial⟩ Tryz.call52) (strconv_Itoa_ok _ Al (hg_pow10.mono (S.le_arg nil_sub)) _ hr1) rfl ?_;clear S;intro v1 a w1 hv1 hk1 hn1 S
 subst hv1
 refine lv S (Ra (S.tm rfl)) rfl ?_;clear S;intro a S
 refine Ld (Tn (Fs (Fg (lv S (Rm (S.tm rfl)) rfl ?_))));clear S;intro a S
 refine lv S (Rm (S.tm rfl)) rfl ?_;clear S;intro a S
 refine lv S (rn_len_str Tryz.underlying9 (S.tm rfl)) rfl ?_;clear S;intro a S
 refine lv S (rn_sub (S.tm rfl) (S.tm rfl)) rfl ?_;clear S;intro a S
 refine lv S (rn_max2 rfl (S.tm rfl)) rfl ?_;clear S;intro a S
 obtain ⟨r2, hr2, h⟩ := bindE h
 refine l_enter S (fun _ => run_call (vs := [sV k_0, iV (imax 0 (W (Bc - (r1.size : Int))))]) ⟨rfl, (S.tm rfl), trivial⟩ Tryz.call53) (strings_Repeat_ok _ k_0 (imax 0 (W (Bc - (r1.size : Int)))) _ hr2) rfl ?_;clear S;intro v2 a w2 hv2 hk2 hn2 S
 subst hv2
 refine lv S (Rm (S.tm rfl)) rfl ?_;clear S;intro a S
 obtain ⟨hc1, h⟩ := chkE h
 refine lv S (rn_sadd (m := r2) (n := r1) (S.tm rfl) (S.tm rfl) (by have := room_lt hc1;omega)) rfl ?_;clear S;intro a S
 refine lv S (Ra (S.tm rfl)) rfl ?_;clear S;intro a S
 refine Ld (Tn (wp_ret ?_))
 obtain rfl := Option.some.inj h
 exact f_ret S Tryz.results23 rfl rfl
theorem swimmer_Text_ok (w : World) (Ae : Value) (Aj : List GSwimmer) (Ao : Slc (view w []) 3 Ae (Aj.map GSwimmer.enc)) (hg_pow10 : Glob (view w []) 3 pow10Cells) (r : ByteArray × Int) (h : swimmer_Text Aj = some r) :
    Calls Tryz.prog 6 [Ae].toArray w (Ret w [] fun _ v _ => v = .tuple #[sV r.1, iV r.2]) := by
 refine f_enter [] [] Tryz.func6 rfl Tryz.ntmps6 rfl (by simp) (by simp [fps]) (by simp [fps]) fun a S => ?_
 unfold swimmer_Text at h
 replace S := S.nk [] [(0, Ae)] [] rfl ⟨rfl, trivial⟩
 refine Fs (Fg (lv S (Ra rfl) rfl ?_));clear S;intro a S
 refine lv S (Ra rfl) rfl ?_;clear S;intro a S
 refine Ld (Tn (Fs (Fs (Fg (lv S (Rm (S.tm rfl)) rfl ?_)))));clear S;intro a S
 obtain ⟨r1, hr1, h⟩ := bindE h
 refine l_enter S (fun _ => run_call (vs := [Ae]) ⟨(S.tm rfl), trivial⟩ Tryz.call20) (swimmer_CheckSwimmers_ok _ Ae Aj (Ao.mono (S.le_arg nil_sub)) _ hr1) rfl ?_;clear S;intro v1 a w1 hv1 hk1 hn1 S
 subst hv1
 refine lv S (Ra (S.tm rfl)) rfl ?_;clear S;intro a S
 refine Ld (Tn (Fs (Fg (lv S (Rm (S.tm rfl)) rfl ?_))));clear S;intro a S
 refine lv S (rn_neq (S.tm rfl) rfl) rfl ?_;clear S;intro a S
 refine Ld (Tn (f_cond (S.tm rfl) (fun hb1 => ?_) (fun hb1 => ?_)))
 ·replace h := iteT h hb1
  refine Fs (Fg (lv S (Rm (S.tm rfl)) rfl ?_));clear S;intro a S
  refine lv S (Ra rfl) rfl ?_;clear S;intro a S
  refine lv S (Ra (S.tm rfl)) rfl ?_;clear S;intro a S
  refine Ld (Tn (wp_ret (then_r ?_)))
  obtain rfl := Option.some.inj h
  exact f_ret2 S Tryz.results6 rfl rfl rfl
 ·replace h := iteF h hb1
  refine wp_skip (Tn (Fs (Fg (l_alloc S Tryz.zeroValue51 (cs := [.pointer none, .slice none 0 0]) rfl rfl ?_))));clear S;intro a w2 b1 hz1 hk2 S
  replace S := S.newB 5
  refine Ld (Tn (Fs (Fs (Fg (lv S (Rm (S.tm rfl)) rfl ?_)))));clear S;intro a S
  refine lv S (rn_lenT sl_26 (S.tm rfl) (slc_len Ao)) rfl ?_;clear S;intro a S
  refine lv S (Rm rfl) rfl ?_;clear S;intro a S
  refine Ld (Tn ?_)
  replace S := S.nk [.ownF (.slice none 0 0) 5 ByteArray.empty.size (Lib.strCells ByteArray.empty), .blk b1 [selfP b1 false, (.slice none 0 0)] 51] [(5, .pointer (some ⟨b1, 0, none⟩)), (15, Ae), (16, iV (Aj.length : Int)), (17, iV 0)] [true, true] rfl (subR rfl)
  obtain ⟨j1, hj1, h⟩ := joinE h
  refine f_join (fun a w' => ∃ x1 : ByteArray, ∃ x2 : Bool, ∃ v2 : Value, j1 x1 x2 = some r ∧ Sx w [] nov [.ownF v2 5 x1.size (Lib.strCells x1), .blk b1 [selfP b1 x2, v2] 51] [(5, .pointer (some ⟨b1, 0, none⟩))] 53 a w') ?_ ?_
  ·refine wp_block (f_loop (fun (ys1 : List GSwimmer) a w' => ∃ i1 : Nat, ∃ x1 : ByteArray, ∃ x2 : Bool, ∃ v2 : Value, (∃ dn, Aj = dn ++ ys1 ∧ dn.length = i1) ∧ swimmer_Text_l1 j1 ys1 i1 x1 x2 = some r ∧ Sx w [] nov [.ownF v2 5 x1.size (Lib.strCells x1), .blk b1 [selfP b1 x2, v2] 51] [(5, .pointer (some ⟨b1, 0, none⟩)), (15, Ae), (16, iV (Aj.length : Int)), (17, iV (i1 : Int))] 53 a w') List.length Aj ⟨0, ByteArray.empty, false, (.slice none 0 0), ⟨[], rfl, rfl⟩, h, S.nf [true, true] rfl (subR rfl)⟩ ?_)
   clear S h;rintro ys1 a w3 ⟨i1, x1, x2, v2, ⟨dn, hd1, hi1⟩, h, S⟩
   cases ys1 with
   | nil =>
    rw [swimmer_Text_l1.eq_1] at h
    refine Fs (Fg (lv S (rn_lss (S.tm rfl) (S.tm rfl)) rfl ?_));clear S;intro a S
    refine Ld ?_
    replace S := S.nk [.ownF v2 5 x1.size (Lib.strCells x1), .blk b1 [selfP b1 x2, v2] 51] [(5, .pointer (some ⟨b1, 0, none⟩)), (15, Ae), (16, iV (Aj.length : Int)), (17, iV (i1 : Int)), (18, bV (decide ((i1 : Int) < (Aj.length : Int))))] [true, true] rfl (subR rfl)
    refine Tn (Fs (wp_cond_false ((S.tm rfl).trans (congrArg Value.bool (rng_nil hd1 hi1))) (wp_exit (then_x (then_x (x_same ?_))))))
    refine Tn ?_
    exact ⟨x1, x2, v2, h, S.nf [true, true] rfl ⟨rfl, trivial⟩⟩
   | cons y1 ys1 =>
    rw [swimmer_Text_l1.eq_2] at h
    refine Fs (Fg (lv S (rn_lss (S.tm rfl) (S.tm rfl)) rfl ?_));clear S;intro a S
    refine Ld ?_
    replace S := S.nk [.ownF v2 5 x1.size (Lib.strCells x1), .blk b1 [selfP b1 x2, v2] 51] [(5, .pointer (some ⟨b1, 0, none⟩)), (15, Ae), (16, iV (Aj.length : Int)), (17, iV (i1 : Int)), (18, bV (decide ((i1 : Int) < (Aj.length : Int))))] [true, true] rfl (subR rfl)
    refine Tn (Fs (wp_cond_true ((S.tm rfl).trans (congrArg Value.bool (rng_cons hd1 hi1))) (wp_skip (Tn (Fs (wp_block ?_))))))
    refine Fs (Fg ?_)
    obtain ⟨b2, o1, hm1, hr2⟩ := rn_indexT (a := a) (x := .tmp 15) (y := .tmp 17) (ty := 0) sl_26 Ao (get_mid hd1 hi1) rfl (S.tm rfl) (S.tm rfl)
    refine lv S (hr2 _) rfl ?_;clear S;intro a S
    clear hr2
    refine lv S (rn_ldA Tryz.isAgg38 Tryz.sizeOf38 (off := o1) (o := 0) (part := (GSwimmer.enc y1)) rfl rfl (S.tm rfl) (hm1.at S.emb0)) rfl ?_;clear S;intro a S
    refine l_alloc S Tryz.zeroValue38 (cs := [sV k_empty, iV 0, iV 0]) rfl rfl ?_;clear S;intro a w5 b3 hz2 hk3 S
    refine l_store S (S.tm rfl) (S.tm rfl) (i := 0) (off := 0) rfl Tryz.sizeOf38 (vs := (GSwimmer.enc y1)) rfl rfl rfl rfl ?_;clear S;intro w6 hk4 S
    refine Ld (Tn (Fs (Fg (lv S (Ra rfl) rfl ?_))));clear S;intro a S
    refine Ld (Tn (Fs (Fs (Fg (lv S (rn_fld fa_38_1 (S.tm rfl)) rfl ?_)))));clear S;intro a S
    refine lv S (rn_load Tryz.isAgg3 (S.tm rfl) (S.cell (i := 0) rfl rfl)) rfl ?_;clear S;intro a S
    refine lv S (rn_eql (S.tm rfl) rfl) rfl ?_;clear S;intro a S
    refine Ld (Tn ?_)
    obtain ⟨j2, hj2, h⟩ := joinE h
    refine f_join (fun a w' => ∃ x3 : ByteArray, j2 x3 = some r ∧ Sx w [] nov [.blk b3 (GSwimmer.enc y1) 38, .ownF v2 5 x1.size (Lib.strCells x1), .blk b1 [selfP b1 x2, v2] 51] [(5, .pointer (some ⟨b1, 0, none⟩)), (7, .pointer (some ⟨b3, 0, none⟩)), (8, sV x3), (15, Ae), (16, iV (Aj.length : Int)), (17, iV (i1 : Int))] 53 a w') ?_ ?_
    ·refine f_cond (S.tm rfl) (fun hb2 => ?_) (fun hb2 => ?_)
     ·replace h := iteT h hb2
      refine Fg (lv S (Ra rfl) rfl ?_);clear S;intro a S
      refine Ld (Tn ?_)
      exact ⟨k_m, h, S.nf [true, true, true] rfl (subR rfl)⟩
     ·replace h := iteF h hb2
      refine wp_skip (Tn ?_)
      exact ⟨k_f, h, S.nf [true, true, true] rfl (subR rfl)⟩
    clear S h;rintro a w7 ⟨x3, h, S⟩;rw [hj2] at h;clear hj2 j2
    refine Tn (Fs (Fg (lv S (rn_fld fa_38_2 (S.tm rfl)) rfl ?_)));clear S;intro a S
    refine lv S (rn_load Tryz.isAgg3 (S.tm rfl) (S.cell (i := 0) rfl rfl)) rfl ?_;clear S;intro a S
    obtain ⟨r2, hr3, h⟩ := bindE h
    refine l_enter S (fun _ => run_call (vs := [iV y1.Born]) ⟨(S.tm rfl), trivial⟩ Tryz.call21) (swimmer_dateOf_ok _ y1.Born _ hr3) rfl ?_;clear S;intro v3 a w8 hv2 hk5 hn2 S
    subst hv2
    refine l_alloc S Tryz.zeroValue53 (cs := [iV 0, iV 0, iV 0]) rfl rfl ?_;clear S;intro a w9 b4 hz3 hk6 S
    refine l_store S (S.tm rfl) (S.tm rfl) (i := 0) (off := 0) rfl Tryz.sizeOf53 (vs := (GDate.enc r2)) rfl rfl rfl rfl ?_;clear S;intro w10 hk7 S
    refine Ld (Tn ?_)
    obtain ⟨hc1, h⟩ := chkE h
    obtain ⟨hc2, h⟩ := chkE h
    obtain ⟨hc3, h⟩ := chkE h
    obtain ⟨r3, hr4, h⟩ := bindE h
    obtain ⟨hc4, h⟩ := chkE h
    obtain ⟨hc5, h⟩ := chkE h
    obtain ⟨r4, hr5, h⟩ := bindE h
    obtain ⟨hc6, h⟩ := chkE h
    obtain ⟨hc7, h⟩ := chkE h
    obtain ⟨r5, hr6, h⟩ := bindE h
    obtain ⟨hc8, h⟩ := chkE h
    obtain ⟨hc9, h⟩ := chkE h
    obtain ⟨hc10, h⟩ := chkE h
    refine d_region [21] ([]) Tryz.mixed S rfl (by kernel_rfl) ?_;clear S;intro w15 hk11 hsel S
    refine d_pure 0 S hsel rfl rfl (by kernel_rfl) (by kernel_rfl) rfl (fun _ => (rn_fld fa_38_0 (S.tm rfl))) ?_;clear S;intro a S
    refine d_quietT 1 S hsel rfl (f := 40) (by kernel_rfl) (by kernel_rfl) (by kernel_rfl) (by kernel_rfl) (by kernel_rfl) rfl (fun _ hw => (rn_ld Tryz.isAgg9 (off := 0) (o := 0) (S.tm rfl) ((S.blk_mem (i := 1) (cells := (GSwimmer.enc y1)) (b := b3) (T := 38) rfl (ne_nil (e' := .blk b3 (GSwimmer.enc y1) 38))).kept hw) rfl)) ?_;clear S;intro a S
    refine d_pure 2 S hsel rfl rfl (by kernel_rfl) (by kernel_rfl) rfl (fun _ => (rn_sadd (m := y1.Key) (n := k__20) (S.tm rfl) rfl (by have := room_lt hc1;omega))) ?_;clear S;intro a S
    refine d_pure 3 S hsel rfl rfl (by kernel_rfl) (by kernel_rfl) rfl (fun _ => (Rm (S.tm rfl))) ?_;clear S;intro a S
    refine d_pure 4 S hsel rfl rfl (by kernel_rfl) (by kernel_rfl) rfl (fun _ => (rn_sadd (m := (y1.Key ++ k__20)) (n := x3) (S.tm rfl) (S.tm rfl) (by have := room_lt hc2;omega))) ?_;clear S;intro a S
    refine d_pure 5 S hsel rfl rfl (by kernel_rfl) (by kernel_rfl) rfl (fun _ => (rn_sadd (m := ((y1.Key ++ k__20) ++ x3)) (n := k__20) (S.tm rfl) rfl (by have := room_lt hc3;omega))) ?_;clear S;intro a S
    refine d_pure 6 S hsel rfl rfl (by kernel_rfl) (by kernel_rfl) rfl (fun _ => (rn_fld fa_53_0 (S.tm rfl))) ?_;clear S;intro a S
    refine d_quietT 7 S hsel rfl (f := 40) (by kernel_rfl) (by kernel_rfl) (by kernel_rfl) (by kernel_rfl) (by kernel_rfl) rfl (fun _ hw => (rn_ld Tryz.isAgg3 (off := 0) (o := 0) (S.tm rfl) ((S.blk_mem (i := 0) (cells := (GDate.enc r2)) (b := b4) (T := 53) rfl (ne_nil (e' := .blk b4 (GDate.enc r2) 53))).kept hw) rfl)) ?_;clear S;intro a S
    refine d_pure 11 S hsel rfl rfl (by kernel_rfl) (by kernel_rfl) rfl (fun _ => (rn_fld fa_53_1 (S.tm rfl))) ?_;clear S;intro a S
    refine d_quietT 12 S hsel rfl (f := 40) (by kernel_rfl) (by kernel_rfl) (by kernel_rfl) (by kernel_rfl) (by kernel_rfl) rfl (fun _ hw => (rn_ld Tryz.isAgg3 (off := 0) (o := 1) (S.tm rfl) ((S.blk_mem (i := 0) (cells := (GDate.enc r2)) (b := b4) (T := 53) rfl (ne_nil (e' := .blk b4 (GDate.enc r2) 53))).kept hw) rfl)) ?_;clear S;intro a S
    refine d_pure 16 S hsel rfl rfl (by kernel_rfl) (by kernel_rfl) rfl (fun _ => (rn_fld fa_53_2 (S.tm rfl))) ?_;clear S;intro a S
    refine d_quietT 17 S hsel rfl (f := 40) (by kernel_rfl) (by kernel_rfl) (by kernel_rfl) (by kernel_rfl) (by kernel_rfl) rfl (fun _ hw => (rn_ld Tryz.isAgg3 (off := 0) (o := 2) (S.tm rfl) ((S.blk_mem (i := 0) (cells := (GDate.enc r2)) (b := b4) (T := 53) rfl (ne_nil (e' := .blk b4 (GDate.enc r2) 53))).kept hw) rfl)) ?_;clear S;intro a S
    refine d_loud1 8 (by kernel_rfl) rfl (l_enter S (fun _ => run_call (vs := [iV r2.Year, iV 4]) ⟨(S.tm rfl), rfl, trivial⟩ Tryz.call23) (swimmer_padded_ok _ r2.Year 4 (hg_pow10.mono (S.le_arg nil_sub)) _ hr4) rfl ?_);clear S;intro v8 a w16 hv6 hk12 hn6 S
    subst hv6
    refine Ld (d_next hk12 ?_)
    refine d_pure 9 S hsel rfl rfl (by kernel_rfl) (by kernel_rfl) rfl (fun _ => (rn_sadd (m := (((y1.Key ++ k__20) ++ x3) ++ k__20)) (n := r3) (S.tm rfl) (S.tm rfl) (by have := room_lt hc4;omega))) ?_;clear S;intro a S
    refine d_pure 10 S hsel rfl rfl (by kernel_rfl) (by kernel_rfl) rfl (fun _ => (rn_sadd (m := ((((y1.Key ++ k__20) ++ x3) ++ k__20) ++ r3)) (n := k__2d) (S.tm rfl) rfl (by have := room_lt hc5;omega))) ?_;clear S;intro a S
    refine d_loud1 13 (by kernel_rfl) rfl (l_enter S (fun _ => run_call (vs := [iV r2.Month, iV 2]) ⟨(S.tm rfl), rfl, trivial⟩ Tryz.call23) (swimmer_padded_ok _ r2.Month 2 (hg_pow10.mono (S.le_arg nil_sub)) _ hr5) rfl ?_);clear S;intro v9 a w17 hv7 hk13 hn7 S
    subst hv7
    refine Ld (d_next hk13 ?_)
    refine d_pure 14 S hsel rfl rfl (by kernel_rfl) (by kernel_rfl) rfl (fun _ => (rn_sadd (m := (((((y1.Key ++ k__20) ++ x3) ++ k__20) ++ r3) ++ k__2d)) (n := r4) (S.tm rfl) (S.tm rfl) (by have := room_lt hc6;omega))) ?_;clear S;intro a S
    refine d_pure 15 S hsel rfl rfl (by kernel_rfl) (by kernel_rfl) rfl (fun _ => (rn_sadd (m := ((((((y1.Key ++ k__20) ++ x3) ++ k__20) ++ r3) ++ k__2d) ++ r4)) (n := k__2d) (S.tm rfl) rfl (by have := room_lt hc7;omega))) ?_;clear S;intro a S
    refine d_loud1 18 (by kernel_rfl) rfl (l_enter S (fun _ => run_call (vs := [iV r2.Day, iV 2]) ⟨(S.tm rfl), rfl, trivial⟩ Tryz.call23) (swimmer_padded_ok _ r2.Day 2 (hg_pow10.mono (S.le_arg nil_sub)) _ hr6) rfl ?_);clear S;intro v10 a w18 hv8 hk14 hn8 S
    subst hv8
    refine Ld (d_next hk14 ?_)
    refine d_pure 19 S hsel rfl rfl (by kernel_rfl) (by kernel_rfl) rfl (fun _ => (rn_sadd (m := (((((((y1.Key ++ k__20) ++ x3) ++ k__20) ++ r3) ++ k__2d) ++ r4) ++ k__2d)) (n := r5) (S.tm rfl) (S.tm rfl) (by have := room_lt hc8;omega))) ?_;clear S;intro a S
    refine d_pure 20 S hsel rfl rfl (by kernel_rfl) (by kernel_rfl) rfl (fun _ => (rn_sadd (m := ((((((((y1.Key ++ k__20) ++ x3) ++ k__20) ++ r3) ++ k__2d) ++ r4) ++ k__2d) ++ r5)) (n := k__0a) (S.tm rfl) rfl (by have := room_lt hc9;omega))) ?_;clear S;intro a S
    refine d_loudB 21 ([]) rfl (by kernel_rfl) rfl (l_bwrite (b := b1) (dd := x2) (v := v2) (x := x1) (s := ((((((((y1.Key ++ k__20) ++ x3) ++ k__20) ++ r3) ++ k__2d) ++ r4) ++ k__2d) ++ r5) ++ k__0a) (Lr := [.blk b4 (GDate.enc r2) 53, .blk b3 (GSwimmer.enc y1) 38]) Tryz.lays166 Tryz.bx166 [3, 2] [0, 1] S rfl rfl rfl rfl rfl (fun _ => run_call (vs := [.pointer (some ⟨b1, 0, none⟩), sV (((((((((y1.Key ++ k__20) ++ x3) ++ k__20) ++ r3) ++ k__2d) ++ r4) ++ k__2d) ++ r5) ++ k__0a)]) ⟨(S.tm rfl), (S.tm rfl), trivial⟩ Tryz.call22) rfl hc10 ?_);clear S;intro v11 a w19 S
    refine Ld (d_nextB (d_end (by kernel_rfl) ?_))
    clear hsel
    replace S := S.nk [.blk b1 [selfP b1 true, v11] 51, .ownF v11 5 (x1 ++ (((((((((y1.Key ++ k__20) ++ x3) ++ k__20) ++ r3) ++ k__2d) ++ r4) ++ k__2d) ++ r5) ++ k__0a)).size (Lib.strCells (x1 ++ (((((((((y1.Key ++ k__20) ++ x3) ++ k__20) ++ r3) ++ k__2d) ++ r4) ++ k__2d) ++ r5) ++ k__0a)))] [(5, .pointer (some ⟨b1, 0, none⟩)), (15, Ae), (16, iV (Aj.length : Int)), (17, iV (i1 : Int))] [true, true, false, false] rfl (subR rfl)
    refine blk_n (Tn (Fg (lv S (rn_add (S.tm rfl) rfl) rfl ?_)));clear S;intro a S
    refine lv S (Rm (S.tm rfl)) rfl ?_;clear S;intro a S
    refine Ld (Tn ?_)
    exact ⟨ys1, ⟨i1 + 1, (x1 ++ (((((((((y1.Key ++ k__20) ++ x3) ++ k__20) ++ r3) ++ k__2d) ++ r4) ++ k__2d) ++ r5) ++ k__0a)), true, v11, ⟨_, (hd1).trans (List.append_cons _ _ _), by simp [hi1]⟩, h, S.pn [1, 0] [] rfl rfl ⟨rfl, rfl, rfl, (congrArg (fun z => some (Value.int .i64 z)) (rng_next hd1 hi1 (slc_max Ao))), trivial⟩⟩, Nat.lt_succ_self _⟩
  clear S h;rintro a w4 ⟨x1, x2, v2, h, S⟩;rw [hj1] at h;clear hj1 j1
  refine Tn (Fs (Fs (Fg (l_blen (b := b1) (dd := x2) (v := v2) (x := x1) (Lr := []) Tryz.lays170 [1, 0] [] S rfl rfl rfl rfl rfl (fun _ => run_call (vs := [.pointer (some ⟨b1, 0, none⟩)]) ⟨(S.tm rfl), trivial⟩ Tryz.call24) rfl ?_))));clear S;intro a S
  refine lv S (rn_gtr (S.tm rfl) rfl) rfl ?_;clear S;intro a S
  refine Ld (Tn (f_cond (S.tm rfl) (fun hb3 => ?_) (fun hb3 => ?_)))
  ·replace h := iteT h hb3
   refine Fs (Fg (lv S (Ra rfl) rfl ?_));clear S;intro a S
   refine lv S (Ra rfl) rfl ?_;clear S;intro a S
   refine Ld (Tn (wp_ret (then_r ?_)))
   obtain rfl := Option.some.inj h
   exact f_ret2 S Tryz.results6 rfl rfl rfl
  ·replace h := iteF h hb3
   refine wp_skip (Tn (Fs (Fg (l_bstr (b := b1) (dd := x2) (v := v2) (x := x1) (Lr := []) Tryz.lays169 Tryz.bx169 [1, 0] [] S rfl rfl rfl rfl (fun _ => run_call (vs := [.pointer (some ⟨b1, 0, none⟩)]) ⟨(S.tm rfl), trivial⟩ Tryz.call25) rfl ?_))));clear S;intro a w20 S
   refine lv S (Ra (S.tm rfl)) rfl ?_;clear S;intro a S
   refine lv S (Ra rfl) rfl ?_;clear S;intro a S
   refine Ld (Tn (wp_ret ?_))
   obtain rfl := Option.some.inj h
   exact f_ret2 S Tryz.results6 rfl rfl rfl
theorem tumbref2_in_ok (w : World) (Al : Int) (Ap : Int) (Am : Int) (r : Bool) (h : tumbref2_in Al Ap Am = r) :
    Calls Tryz.prog 27 [iV Al, iV Ap, iV Am].toArray w (Ret w [] fun _ v _ => v = bV r) := by
 refine f_enter [] [] Tryz.func27 rfl Tryz.ntmps27 rfl (by simp) (by simp [fps]) (by simp [fps]) fun a S => ?_
 unfold tumbref2_in at h
 replace S := S.nk [] [(0, iV Al), (1, iV Ap), (2, iV Am)] [] rfl (subR rfl)
 refine Fs (Fg (lv S (Ra rfl) rfl ?_));clear S;intro a S
 refine Ld (Tn (Fs (Fg (lv S (Rm (S.tm rfl)) rfl ?_))));clear S;intro a S
 refine lv S (Rm (S.tm rfl)) rfl ?_;clear S;intro a S
 refine lv S (rn_leq (S.tm rfl) (S.tm rfl)) rfl ?_;clear S;intro a S
 refine lv S (Rm (S.tm rfl)) rfl ?_;clear S;intro a S
 refine f_cutm 4 (fun a w' => Keep [] w w' ∧ Sx w [] nov [] [(14, bV ((decide (Ap ≤ Al)) && (decide (Al ≤ Am))))] 15 a w') ?_ ?_
 ·rcases Bool.eq_false_or_eq_true (decide (Ap ≤ Al)) with hb1 | hb1
  ·refine l_want S rfl rfl rfl hb1 (lv S (Rm (S.tm rfl)) rfl ?_);clear S;intro a S
   refine l_want S rfl rfl rfl hb1 (lv S (Rm (S.tm rfl)) rfl ?_);clear S;intro a S
   refine l_want S rfl rfl rfl hb1 (lv S (rn_leq (S.tm rfl) (S.tm rfl)) rfl ?_);clear S;intro a S
   refine lv S (rn_and_t hb1 (S.tm rfl) (S.tm rfl)) rfl ?_;clear S;intro a S
   refine Ld (Tn ?_)
   exact ⟨Keep.refl _ _, S.nf [] rfl ⟨rfl, trivial⟩⟩
  ·iterate 3 (refine l_skip S rfl rfl rfl (neq_f hb1) rfl ?_ rfl;clear S;intro a S)
   refine lv S (rn_and_f (decide (Al ≤ Am)) hb1 (S.tm rfl) rfl) rfl ?_;clear S;intro a S
   refine Ld (Tn ?_)
   exact ⟨Keep.refl _ _, S.nf [] rfl ⟨rfl, trivial⟩⟩
 clear S;rintro a w1 ⟨hk1, S⟩
 refine lv S (Ra (S.tm rfl)) rfl ?_;clear S;intro a S
 refine Ld (Tn (wp_ret ?_))
 subst h
 exact f_ret S Tryz.results27 rfl rfl
theorem strings_IndexByte_ok (w : World) (s : ByteArray) (c : Int) (r : Int) (h : strings_IndexByte s c = r) : Calls Tryz.prog 61 [.string s, .int .u8 c].toArray w (Ret w [] fun _ v _ => v = .int .i64 r) := by
  subst h
  exact ret_of_same (Any.strings_IndexByte Tryz.lays137 s c w)
theorem tumbref2_only_ok (w : World) (Ad : ByteArray) (Bh : ByteArray) (r : Bool) (h : tumbref2_only Ad Bh = some r) :
    Calls Tryz.prog 40 [sV Ad, sV Bh].toArray w (Ret w [] fun _ v _ => v = bV r) := by
 refine f_enter [] [] Tryz.func40 rfl Tryz.ntmps40 rfl (by simp) (by simp [fps]) (by simp [fps]) fun a S => ?_
 unfold tumbref2_only at h
 replace S := S.nk [] [(0, sV Ad), (1, sV Bh)] [] rfl (subR rfl)
 refine Fs (Fg (lv S (Ra rfl) rfl ?_));clear S;intro a S
 refine Ld (Tn (Fs (Fs (Fg (lv S (Rm (S.tm rfl)) rfl ?_)))));clear S;intro a S
 refine lv S (rn_len_str Tryz.underlying9 (S.tm rfl)) rfl ?_;clear S;intro a S
 refine lv S (Rm rfl) rfl ?_;clear S;intro a S
 refine Ld (Tn ?_)
 replace S := S.nk [] [(0, sV Ad), (1, sV Bh), (7, iV (Ad.size : Int)), (8, iV 0)] [] rfl (subR rfl)
 obtain ⟨j1, hj1, h⟩ := joinE h
 refine f_join (fun a w' => j1 = some r ∧ Sx w [] nov [] [] 18 a w') ?_ ?_
 ·refine wp_block (f_loop (fun (m1 : Nat) a w' => ∃ x1 : Int, tumbref2_only_l1 Ad Bh j1 m1 x1 = some r ∧ Sx w [] nov [] [(0, sV Ad), (1, sV Bh), (7, iV (Ad.size : Int)), (8, iV x1)] 18 a w') id (((Ad.size : Int) - 0).toNat + 2) ⟨0, h, S.nf [] rfl (subR rfl)⟩ ?_)
  clear S h;rintro m1 a w1 ⟨x1, h, S⟩
  cases m1 with
  | zero => rw [tumbref2_only_l1.eq_1] at h;cases h
  | succ m1 =>
   rw [tumbref2_only_l1.eq_2] at h
   refine Fs (Fg (lv S (rn_lss (S.tm rfl) (S.tm rfl)) rfl ?_));clear S;intro a S
   refine Ld (Tn (Fs (f_cond (S.tm rfl) (fun hb1 => ?_) (fun hb1 => ?_))))
   ·replace h := iteT h hb1
    refine wp_skip (Tn (Fs (wp_block (Fs (Fg (lv S (Rm (S.tm rfl)) rfl ?_))))));clear S;intro a S
    refine lv S (Ra (S.tm rfl)) rfl ?_;clear S;intro a S
    refine Ld (Tn (Fs (Fg (lv S (Rm (S.tm rfl)) rfl ?_))));clear S;intro a S
    refine lv S (Rm (S.tm rfl)) rfl ?_;clear S;intro a S
    refine lv S (Rm (S.tm rfl)) rfl ?_;clear S;intro a S
    obtain ⟨hc1, h⟩ := chkE h
    refine lv S (rn_sindexT Tryz.underlying9 (S.tm rfl) (S.tm rfl) hc1) rfl ?_;clear S;intro a S
    refine l_enter S (fun _ => run_call (vs := [sV Bh, .int .u8 (sbyte Ad x1)]) ⟨(S.tm rfl), (S.tm rfl), trivial⟩ Tryz.call61) (strings_IndexByte_ok _ Bh (sbyte Ad x1) _ rfl) rfl ?_;clear S;intro v1 a w3 hv1 hk1 hn1 S
    subst hv1
    refine lv S (rn_lss (S.tm rfl) rfl) rfl ?_;clear S;intro a S
    refine Ld (Tn (f_cond (S.tm rfl) (fun hb2 => ?_) (fun hb2 => ?_)))
    ·replace h := iteT h hb2
     refine Fs (Fg (lv S (Ra rfl) rfl ?_));clear S;intro a S
     refine Ld (Tn (wp_ret (blk_r (then_r (then_r (blk_r ?_))))))
     refine then_r (then_r ?_)
     obtain rfl := Option.some.inj h
     exact f_ret S Tryz.results40 rfl rfl
    ·replace h := iteF h hb2
     refine wp_skip (blk_n (Tn (Fg (lv S (rn_add (S.tm rfl) rfl) rfl ?_))));clear S;intro a S
     refine lv S (Rm (S.tm rfl)) rfl ?_;clear S;intro a S
     refine Ld (Tn ?_)
     exact ⟨m1, ⟨W (x1 + 1), h, S.nf [] rfl ⟨rfl, rfl, rfl, rfl, trivial⟩⟩, Nat.lt_succ_self _⟩
   ·replace h := iteF h hb1
    refine wp_exit (then_x (then_x (x_same (Tn ?_))))
    exact ⟨h, S.nf [] rfl trivial⟩
 clear S h;rintro a w2 ⟨h, S⟩;rw [hj1] at h;clear hj1 j1
 refine Tn (Fs (Fg (lv S (Ra rfl) rfl ?_)));clear S;intro a S
 refine Ld (Tn (wp_ret ?_))
 obtain rfl := Option.some.inj h
 exact f_ret S Tryz.results40 rfl rfl
theorem tumbref2_Key_ok (w : World) (Ad : ByteArray) (r : Bool) (h : tumbref2_Key Ad = some r) :
    Calls Tryz.prog 26 [sV Ad].toArray w (Ret w [] fun _ v _ => v = bV r) := by
 refine f_enter [] [] Tryz.func26 rfl Tryz.ntmps26 rfl (by simp) (by simp [fps]) (by simp [fps]) fun a S => ?_
 unfold tumbref2_Key at h
 replace S := S.nk [] [(0, sV Ad)] [] rfl ⟨rfl, trivial⟩
 refine Fs (Fg (lv S (Ra rfl) rfl ?_));clear S;intro a S
 refine Ld (Tn (Fs (Fg (lv S (Rm (S.tm rfl)) rfl ?_))));clear S;intro a S
 refine lv S (rn_len_str Tryz.underlying9 (S.tm rfl)) rfl ?_;clear S;intro a S
 refine l_enter S (fun _ => run_call (vs := [iV (Ad.size : Int), iV 1, iV 40]) ⟨(S.tm rfl), rfl, rfl, trivial⟩ Tryz.call27) (tumbref2_in_ok _ (Ad.size : Int) 1 40 _ rfl) rfl ?_;clear S;intro v1 a w1 hv1 hk1 hn1 S
 subst hv1
 refine lv S (Rm (S.tm rfl)) rfl ?_;clear S;intro a S
 obtain ⟨j1, hj1, h⟩ := joinE h
 refine f_cutm 4 (fun a w' => ∃ c1, j1 c1 = some r ∧ Keep [] w1 w' ∧ Sx w [] nov [] [(0, sV Ad), (10, bV c1)] 15 a w') ?_ ?_
 ·rcases Bool.eq_false_or_eq_true (tumbref2_in (Ad.size : Int) 1 40) with hb1 | hb1
  ·replace h := iteT h hb1
   refine l_want S rfl rfl rfl hb1 (lv S (Rm (S.tm rfl)) rfl ?_);clear S;intro a S
   refine l_want S rfl rfl rfl hb1 ?_
   obtain ⟨hc1, h⟩ := chkE h
   refine lv S (rn_scutTh Tryz.underlying9 (S.tm rfl) rfl hc1) rfl ?_;clear S;intro a S
   refine l_want S rfl rfl rfl hb1 ?_
   obtain ⟨r1, hr1, h⟩ := bindE h
   refine l_enter S (fun _ => run_call (vs := [sV (scut Ad 0 1), sV k_abcdefghijklmnopqrstuvwxyz]) ⟨(S.tm rfl), rfl, trivial⟩ Tryz.call40) (tumbref2_only_ok _ (scut Ad 0 1) k_abcdefghijklmnopqrstuvwxyz _ hr1) rfl ?_;clear S;intro v2 a w3 hv2 hk2 hn2 S
   subst hv2
   refine lv S (rn_and_t hb1 (S.tm rfl) (S.tm rfl)) rfl ?_;clear S;intro a S
   refine Ld (Tn ?_)
   exact ⟨_, h, hk2, S.nf [] rfl (subR rfl)⟩
  ·replace h := iteF h hb1
   iterate 3 (refine l_skip S rfl rfl rfl (neq_f hb1) rfl ?_ rfl;clear S;intro a S)
   refine lv S (rn_and_f true hb1 (S.tm rfl) rfl) rfl ?_;clear S;intro a S
   refine Ld (Tn ?_)
   exact ⟨_, h, Keep.refl _ _, S.nf [] rfl (subR rfl)⟩
 clear S h;rintro a w2 ⟨c1, h, hk3, S⟩;rw [hj1] at h;clear hj1 j1
 refine lv S (Rm (S.tm rfl)) rfl ?_;clear S;intro a S
 obtain ⟨j2, hj2, h⟩ := joinE h
 refine f_cutm 3 (fun a w' => ∃ c2, j2 c2 = some r ∧ Keep [] w2 w' ∧ Sx w [] nov [] [(14, bV c2)] 15 a w') ?_ ?_
 ·rcases Bool.eq_false_or_eq_true c1 with hb2 | hb2
  ·replace h := iteT h hb2
   refine l_want S rfl rfl rfl hb2 (lv S (Rm (S.tm rfl)) rfl ?_);clear S;intro a S
   refine l_want S rfl rfl rfl hb2 ?_
   obtain ⟨r2, hr2, h⟩ := bindE h
   refine l_enter S (fun _ => run_call (vs := [sV Ad, sV k_abcdefghijkl_h0e2e2c]) ⟨(S.tm rfl), rfl, trivial⟩ Tryz.call40) (tumbref2_only_ok _ Ad k_abcdefghijkl_h0e2e2c _ hr2) rfl ?_;clear S;intro v3 a w5 hv3 hk4 hn3 S
   subst hv3
   refine lv S (rn_and_t hb2 (S.tm rfl) (S.tm rfl)) rfl ?_;clear S;intro a S
   refine Ld (Tn ?_)
   exact ⟨_, h, hk4, S.nf [] rfl ⟨rfl, trivial⟩⟩
  ·replace h := iteF h hb2
   refine l_skip S rfl rfl rfl (neq_f hb2) rfl ?_ rfl;clear S;intro a S
   refine l_skip S rfl rfl rfl (neq_f hb2) rfl ?_ rfl;clear S;intro a S
   refine lv S (rn_and_f true hb2 (S.tm rfl) rfl) rfl ?_;clear S;intro a S
   refine Ld (Tn ?_)
   exact ⟨_, h, Keep.refl _ _, S.nf [] rfl ⟨rfl, trivial⟩⟩
 clear S h;rintro a w4 ⟨c2, h, hk5, S⟩;rw [hj2] at h;clear hj2 j2
 refine lv S (Ra (S.tm rfl)) rfl ?_;clear S;intro a S
 refine Ld (Tn (wp_ret ?_))
 obtain rfl := Option.some.inj h
 exact f_ret S Tryz.results26 rfl rfl
theorem tumbref2_Day_ok (w : World) (Al : Int) (r : Bool) (h : tumbref2_Day Al = r) :
    Calls Tryz.prog 28 [iV Al].toArray w (Ret w [] fun _ v _ => v = bV r) := by
 refine f_enter [] [] Tryz.func28 rfl Tryz.ntmps28 rfl (by simp) (by simp [fps]) (by simp [fps]) fun a S => ?_
 unfold tumbref2_Day at h
 replace S := S.nk [] [(0, iV Al)] [] rfl ⟨rfl, trivial⟩
 refine Fs (Fg (lv S (Ra rfl) rfl ?_));clear S;intro a S
 refine Ld (Tn (Fs (Fg (lv S (Rm (S.tm rfl)) rfl ?_))));clear S;intro a S
 refine l_enter S (fun _ => run_call (vs := [iV Al, iV (-40000), iV 4000]) ⟨(S.tm rfl), rfl, rfl, trivial⟩ Tryz.call27) (tumbref2_in_ok _ Al (-40000) 4000 _ rfl) rfl ?_;clear S;intro v1 a w1 hv1 hk1 hn1 S
 subst hv1
 refine lv S (Ra (S.tm rfl)) rfl ?_;clear S;intro a S
 refine Ld (Tn (wp_ret ?_))
 subst h
 exact f_ret S Tryz.results28 rfl rfl
theorem tumbref2_SwimmersFault_ok (w : World) (Ae : Value) (Aj : List GSwimmer) (Ao : Slc (view w []) 3 Ae (Aj.map GSwimmer.enc)) (r : Int) (h : tumbref2_SwimmersFault Aj = some r) :
    Calls Tryz.prog 7 [Ae].toArray w (Ret w [] fun _ v _ => v = iV r) := by
 refine f_enter [] [] Tryz.func7 rfl Tryz.ntmps7 rfl (by simp) (by simp [fps]) (by simp [fps]) fun a S => ?_
 unfold tumbref2_SwimmersFault at h
 replace S := S.nk [] [(0, Ae)] [] rfl ⟨rfl, trivial⟩
 refine Fs (Fg (lv S (Ra rfl) rfl ?_));clear S;intro a S
 refine Ld (Tn (Fs (Fs (Fg (lv S (Rm (S.tm rfl)) rfl ?_)))));clear S;intro a S
 refine lv S (rn_lenT sl_26 (S.tm rfl) (slc_len Ao)) rfl ?_;clear S;intro a S
 refine lv S (rn_gtr (S.tm rfl) rfl) rfl ?_;clear S;intro a S
 refine Ld (Tn (f_cond (S.tm rfl) (fun hb1 => ?_) (fun hb1 => ?_)))
 ·replace h := iteT h hb1
  refine Fs (Fg (lv S (Ra rfl) rfl ?_));clear S;intro a S
  refine Ld (Tn (wp_ret (then_r ?_)))
  obtain rfl := Option.some.inj h
  exact f_ret S Tryz.results7 rfl rfl
 ·replace h := iteF h hb1
  refine wp_skip (Tn (Fs (Fg (lv S (Ra rfl) rfl ?_))));clear S;intro a S
  refine Ld (Tn (Fs (Fs (Fg (lv S (Rm (S.tm rfl)) rfl ?_)))));clear S;intro a S
  refine lv S (rn_lenT sl_26 (S.tm rfl) (slc_len Ao)) rfl ?_;clear S;intro a S
  refine lv S (Rm rfl) rfl ?_;clear S;intro a S
  refine Ld (Tn ?_)
  replace S := S.nk [] [(3, sV k_empty), (9, Ae), (10, iV (Aj.length : Int)), (11, iV 0)] [] rfl (subR rfl)
  obtain ⟨j1, hj1, h⟩ := joinE h
  refine f_join (fun a w' => j1 = some r ∧ Sx w [] nov [] [] 39 a w') ?_ ?_
  ·refine wp_block (f_loop (fun (ys1 : List GSwimmer) a w' => ∃ i1 : Nat, ∃ x1 : ByteArray, (∃ dn, Aj = dn ++ ys1 ∧ dn.length = i1) ∧ tumbref2_SwimmersFault_l1 j1 ys1 i1 x1 = some r ∧ Sx w [] nov [] [(3, sV x1), (9, Ae), (10, iV (Aj.length : Int)), (11, iV (i1 : Int))] 39 a w') List.length Aj ⟨0, k_empty, ⟨[], rfl, rfl⟩, h, S.nf [] rfl (subR rfl)⟩ ?_)
   clear S h;rintro ys1 a w1 ⟨i1, x1, ⟨dn, hd1, hi1⟩, h, S⟩
   cases ys1 with
   | nil =>
    rw [tumbref2_SwimmersFault_l1.eq_1] at h
    refine Fs (Fg (lv S (rn_lss (S.tm rfl) (S.tm rfl)) rfl ?_));clear S;intro a S
    refine Ld ?_
    replace S := S.nk [] [(3, sV x1), (9, Ae), (10, iV (Aj.length : Int)), (11, iV (i1 : Int)), (12, bV (decide ((i1 : Int) < (Aj.length : Int))))] [] rfl (subR rfl)
    refine Tn (Fs (wp_cond_false ((S.tm rfl).trans (congrArg Value.bool (rng_nil hd1 hi1))) (wp_exit (then_x (then_x (x_same ?_))))))
    refine Tn ?_
    exact ⟨h, S.nf [] rfl trivial⟩
   | cons y1 ys1 =>
    rw [tumbref2_SwimmersFault_l1.eq_2] at h
    refine Fs (Fg (lv S (rn_lss (S.tm rfl) (S.tm rfl)) rfl ?_));clear S;intro a S
    refine Ld ?_
    replace S := S.nk [] [(3, sV x1), (9, Ae), (10, iV (Aj.length : Int)), (11, iV (i1 : Int)), (12, bV (decide ((i1 : Int) < (Aj.length : Int))))] [] rfl (subR rfl)
    refine Tn (Fs (wp_cond_true ((S.tm rfl).trans (congrArg Value.bool (rng_cons hd1 hi1))) (wp_skip (Tn (Fs (wp_block ?_))))))
    refine Fs (Fg ?_)
    obtain ⟨b1, o1, hm1, hr1⟩ := rn_indexT (a := a) (x := .tmp 9) (y := .tmp 11) (ty := 0) sl_26 Ao (get_mid hd1 hi1) rfl (S.tm rfl) (S.tm rfl)
    refine lv S (hr1 _) rfl ?_;clear S;intro a S
    clear hr1
    refine lv S (rn_ldA Tryz.isAgg38 Tryz.sizeOf38 (off := o1) (o := 0) (part := (GSwimmer.enc y1)) rfl rfl (S.tm rfl) (hm1.at S.emb0)) rfl ?_;clear S;intro a S
    refine l_alloc S Tryz.zeroValue38 (cs := [sV k_empty, iV 0, iV 0]) rfl rfl ?_;clear S;intro a w3 b2 hz1 hk1 S
    refine l_store S (S.tm rfl) (S.tm rfl) (i := 0) (off := 0) rfl Tryz.sizeOf38 (vs := (GSwimmer.enc y1)) rfl rfl rfl rfl ?_;clear S;intro w4 hk2 S
    refine Ld (Tn (Fs (wp_block (Fs (Fg (lv S (rn_fld fa_38_0 (S.tm rfl)) rfl ?_))))));clear S;intro a S
    refine lv S (rn_load Tryz.isAgg9 (S.tm rfl) (S.cell (i := 0) rfl rfl)) rfl ?_;clear S;intro a S
    obtain ⟨r1, hr2, h⟩ := bindE h
    refine l_enter S (fun _ => run_call (vs := [sV y1.Key]) ⟨(S.tm rfl), trivial⟩ Tryz.call26) (tumbref2_Key_ok _ y1.Key _ hr2) rfl ?_;clear S;intro v1 a w5 hv1 hk3 hn1 S
    subst hv1
    refine lv S (rn_not (S.tm rfl)) rfl ?_;clear S;intro a S
    refine lv S (Ra (S.tm rfl)) rfl ?_;clear S;intro a S
    refine Ld (Tn (f_cond (S.tm rfl) (fun hb2 => ?_) (fun hb2 => ?_)))
    ·replace h := iteT h hb2
     refine Fs (Fg (lv S (Ra rfl) rfl ?_));clear S;intro a S
     refine Ld (Tn (wp_ret (blk_r (then_r (blk_r (then_r ?_))))))
     refine then_r (blk_r (then_r (then_r ?_)))
     obtain rfl := Option.some.inj h
     exact f_ret S Tryz.results7 rfl rfl
    ·replace h := iteF h hb2
     refine Fs (Fg (lv S (rn_fld fa_38_0 (S.tm rfl)) rfl ?_));clear S;intro a S
     refine lv S (rn_load Tryz.isAgg9 (S.tm rfl) (S.cell (i := 0) rfl rfl)) rfl ?_;clear S;intro a S
     refine lv S (Rm (S.tm rfl)) rfl ?_;clear S;intro a S
     refine lv S (rn_sleq (S.tm rfl) (S.tm rfl)) rfl ?_;clear S;intro a S
     refine lv S (Ra (S.tm rfl)) rfl ?_;clear S;intro a S
     refine Ld ?_
     replace S := S.nk [.blk b2 (GSwimmer.enc y1) 38] [(5, .pointer (some ⟨b2, 0, none⟩)), (9, Ae), (10, iV (Aj.length : Int)), (11, iV (i1 : Int)), (20, bV (Sless y1.Key x1 || decide (y1.Key = x1)))] [true] rfl (subR rfl)
     refine Tn (f_cond (S.tm rfl) (fun hb3 => ?_) (fun hb3 => ?_))
     ·replace h := iteT h hb3
      refine Fs (Fg (lv S (Ra rfl) rfl ?_));clear S;intro a S
      refine Ld (Tn (wp_ret (blk_r (then_r (blk_r (then_r ?_))))))
      refine then_r (blk_r (then_r (then_r ?_)))
      obtain rfl := Option.some.inj h
      exact f_ret S Tryz.results7 rfl rfl
     ·replace h := iteF h hb3
      refine Fs (Fg (lv S (rn_fld fa_38_1 (S.tm rfl)) rfl ?_));clear S;intro a S
      refine lv S (rn_load Tryz.isAgg3 (S.tm rfl) (S.cell (i := 0) rfl rfl)) rfl ?_;clear S;intro a S
      refine l_enter S (fun _ => run_call (vs := [iV y1.Sex, iV 1, iV 2]) ⟨(S.tm rfl), rfl, rfl, trivial⟩ Tryz.call27) (tumbref2_in_ok _ y1.Sex 1 2 _ rfl) rfl ?_;clear S;intro v2 a w6 hv2 hk4 hn2 S
      subst hv2
      refine lv S (rn_not (S.tm rfl)) rfl ?_;clear S;intro a S
      refine lv S (Rm (S.tm rfl)) rfl ?_;clear S;intro a S
      refine f_cutm 5 (fun a w' => Keep [] w6 w' ∧ Sx w [] nov [.blk b2 (GSwimmer.enc y1) 38] [(5, .pointer (some ⟨b2, 0, none⟩)), (9, Ae), (10, iV (Aj.length : Int)), (11, iV (i1 : Int)), (35, bV ((!(tumbref2_in y1.Sex 1 2)) || (!(tumbref2_Day y1.Born))))] 39 a w') ?_ ?_
      ·rcases Bool.eq_false_or_eq_true (!(tumbref2_in y1.Sex 1 2)) with hb4 | hb4
       ·iterate 4 (refine l_skip S rfl rfl rfl (neq_t hb4) rfl ?_ rfl;clear S;intro a S)
        refine lv S (rn_or_t (!(tumbref2_Day y1.Born)) hb4 (S.tm rfl) rfl) rfl ?_;clear S;intro a S
        refine Ld (Tn ?_)
        exact ⟨Keep.refl _ _, S.nf [true] rfl (subR rfl)⟩
       ·refine l_want S rfl rfl rfl hb4 (lv S (rn_fld fa_38_2 (S.tm rfl)) rfl ?_);clear S;intro a S
        refine l_want S rfl rfl rfl hb4 (lv S (rn_load Tryz.isAgg3 (S.tm rfl) (S.cell (i := 0) rfl rfl)) rfl ?_);clear S;intro a S
        refine l_want S rfl rfl rfl hb4 (l_enter S (fun _ => run_call (vs := [iV y1.Born]) ⟨(S.tm rfl), trivial⟩ Tryz.call28) (tumbref2_Day_ok _ y1.Born _ rfl) rfl ?_);clear S;intro v3 a w8 hv3 hk5 hn3 S
        subst hv3
        refine l_want S rfl rfl rfl hb4 (lv S (rn_not (S.tm rfl)) rfl ?_);clear S;intro a S
        refine lv S (rn_or_f hb4 (S.tm rfl) (S.tm rfl)) rfl ?_;clear S;intro a S
        refine Ld (Tn ?_)
        exact ⟨hk5, S.nf [true] rfl (subR rfl)⟩
      clear S;rintro a w7 ⟨hk6, S⟩
      refine lv S (Ra (S.tm rfl)) rfl ?_;clear S;intro a S
      refine Ld (Tn (f_cond (S.tm rfl) (fun hb5 => ?_) (fun hb5 => ?_)))
      ·replace h := iteT h hb5
       refine Fs (Fg (lv S (Ra rfl) rfl ?_));clear S;intro a S
       refine Ld (Tn (wp_ret (blk_r (then_r (blk_r (then_r ?_))))))
       refine then_r (blk_r (then_r (then_r ?_)))
       obtain rfl := Option.some.inj h
       exact f_ret S Tryz.results7 rfl rfl
      ·replace h := iteF h hb5
       refine wp_skip (blk_n (Tn (Fg (lv S (rn_fld fa_38_0 (S.tm rfl)) rfl ?_))));clear S;intro a S
       refine lv S (rn_load Tryz.isAgg9 (S.tm rfl) (S.cell (i := 0) rfl rfl)) rfl ?_;clear S;intro a S
       refine lv S (Ra (S.tm rfl)) rfl ?_;clear S;intro a S
       refine Ld (blk_n (Tn (Fg (lv S (rn_add (S.tm rfl) rfl) rfl ?_))));clear S;intro a S
       refine lv S (Rm (S.tm rfl)) rfl ?_;clear S;intro a S
       refine Ld (Tn ?_)
       exact ⟨ys1, ⟨i1 + 1, y1.Key, ⟨_, (hd1).trans (List.append_cons _ _ _), by simp [hi1]⟩, h, S.nf [false] rfl ⟨rfl, rfl, rfl, (congrArg (fun z => some (Value.int .i64 z)) (rng_next hd1 hi1 (slc_max Ao))), trivial⟩⟩, Nat.lt_succ_self _⟩
  clear S h;rintro a w2 ⟨h, S⟩;rw [hj1] at h;clear hj1 j1
  refine Tn (Fs (Fg (lv S (Ra rfl) rfl ?_)));clear S;intro a S
  refine Ld (Tn (wp_ret ?_))
  obtain rfl := Option.some.inj h
  exact f_ret S Tryz.results7 rfl rfl
theorem strings_Cut_ok (w : World) (s : ByteArray) (sep : ByteArray) (hg_maxlen : GlobI (view w []) 0) (r : ByteArray × ByteArray × Bool) (h : strings_Cut s sep = some r) : Calls Tryz.prog 57 [sV s, sV sep].toArray w (Ret w [] fun _ v _ => v = .tuple #[.string r.1, .string r.2.1, .bool r.2.2]) := by
  unfold strings_Cut at h
  obtain ⟨hc, h⟩ := chkE h
  simp only [Bool.and_eq_true, decide_eq_true_eq] at hc
  obtain rfl := Option.some.inj h
  exact cut_ret { Tryz.lays145 with } s sep w hg_maxlen hc
theorem strings_Split_ok (w : World) (s : ByteArray) (sep : ByteArray) (hg_maxlen : GlobI (view w []) 0) (r : (List ByteArray)) (h : strings_Split s sep = some r) : Calls Tryz.prog 39 [sV s, sV sep].toArray w (Ret w [] fun τ v _ => OwnV τ 9 1 v r.length (r.flatMap eStr)) := by
  unfold strings_Split at h
  obtain ⟨hc, h⟩ := chkE h
  simp only [Bool.and_eq_true, decide_eq_true_eq] at hc
  obtain rfl := Option.some.inj h
  exact split_ret { Tryz.lays146 with } (by kernel_rfl) s sep w hg_maxlen hc.1 hc.2
theorem words_Split_ok (w : World) (At : ByteArray) (hg_maxlen : GlobI (view w []) 0) (r : (List ByteArray) × Bool) (h : words_Split At = some r) :
    Calls Tryz.prog 33 [sV At].toArray w (Ret w [] fun τ v _ => ∃ u1 : Value, v = .tuple #[u1, bV r.2] ∧ OwnV τ 9 1 u1 r.1.length (r.1.flatMap eStr)) := by
 refine f_enter [] [] Tryz.func33 rfl Tryz.ntmps33 rfl (by simp) (by simp [fps]) (by simp [fps]) fun a S => ?_
 unfold words_Split at h
 replace S := S.nk [] [(0, sV At)] [] rfl ⟨rfl, trivial⟩
 refine Fs (Fg (lv S (Ra rfl) rfl ?_));clear S;intro a S
 refine lv S (Ra rfl) rfl ?_;clear S;intro a S
 refine Ld (Tn (Fs (Fg (lv S (Rm (S.tm rfl)) rfl ?_))));clear S;intro a S
 obtain ⟨r1, hr1, h⟩ := bindE h
 have hz1 := S.keep.size
 refine l_enter S (fun _ => run_call (vs := [sV At, sV k__20]) ⟨(S.tm rfl), rfl, trivial⟩ Tryz.call39) (strings_Split_ok _ At k__20 (hg_maxlen.mono (S.le_arg nil_sub)) _ hr1) rfl ?_;clear S;intro v1 a w1 hv1 hk1 hn1 S
 obtain ⟨φ1, hl1, hm1, S⟩ := S.see' hn1 hz1
 have hs1 := hv1.mono hm1
 refine lv S (Ra (S.tm rfl)) rfl ?_;clear S;intro a S
 refine Ld (Tn (Fs (Fs (Fg (lv S (Rm (S.tm rfl)) rfl ?_)))));clear S;intro a S
 refine lv S (rn_lenT sl_65 (S.tm rfl) (slc_len (ownV_slcT enc_str hs1))) rfl ?_;clear S;intro a S
 refine lv S (Rm rfl) rfl ?_;clear S;intro a S
 refine Ld (Tn ?_)
 replace S := S.nk [] [(4, v1), (9, v1), (10, iV (r1.length : Int)), (11, iV 0)] [] rfl (subR rfl)
 obtain ⟨j1, hj1, h⟩ := joinE h
 refine f_join (fun a w' => j1 = some r ∧ Sx w [] φ1 [] [(4, v1)] 19 a w') ?_ ?_
 ·refine wp_block (f_loop (fun (ys1 : List ByteArray) a w' => ∃ i1 : Nat, (∃ dn, r1 = dn ++ ys1 ∧ dn.length = i1) ∧ words_Split_l1 j1 ys1 i1 = some r ∧ Sx w [] φ1 [] [(4, v1), (9, v1), (10, iV (r1.length : Int)), (11, iV (i1 : Int))] 19 a w') List.length r1 ⟨0, ⟨[], rfl, rfl⟩, h, S.nf [] rfl (subR rfl)⟩ ?_)
  clear S h;rintro ys1 a w2 ⟨i1, ⟨dn, hd1, hi1⟩, h, S⟩
  cases ys1 with
  | nil =>
   rw [words_Split_l1.eq_1] at h
   refine Fs (Fg (lv S (rn_lss (S.tm rfl) (S.tm rfl)) rfl ?_));clear S;intro a S
   refine Ld ?_
   replace S := S.nk [] [(4, v1), (9, v1), (10, iV (r1.length : Int)), (11, iV (i1 : Int)), (12, bV (decide ((i1 : Int) < (r1.length : Int))))] [] rfl (subR rfl)
   refine Tn (Fs (wp_cond_false ((S.tm rfl).trans (congrArg Value.bool (rng_nil hd1 hi1))) (wp_exit (then_x (then_x (x_same ?_))))))
   refine Tn ?_
   exact ⟨h, S.nf [] rfl ⟨rfl, trivial⟩⟩
  | cons y1 ys1 =>
   rw [words_Split_l1.eq_2] at h
   refine Fs (Fg (lv S (rn_lss (S.tm rfl) (S.tm rfl)) rfl ?_));clear S;intro a S
   refine Ld ?_
   replace S := S.nk [] [(4, v1), (9, v1), (10, iV (r1.length : Int)), (11, iV (i1 : Int)), (12, bV (decide ((i1 : Int) < (r1.length : Int))))] [] rfl (subR rfl)
   refine Tn (Fs (wp_cond_true ((S.tm rfl).trans (congrArg Value.bool (rng_cons hd1 hi1))) (wp_skip (Tn (Fs (wp_block ?_))))))
   refine Fs (Fg ?_)
   obtain ⟨b1, o1, hm2, hr2⟩ := rn_indexT (a := a) (x := .tmp 9) (y := .tmp 11) (ty := 0) sl_65 (ownV_slcT enc_str hs1) (get_mid hd1 hi1) rfl (S.tm rfl) (S.tm rfl)
   refine lv S (hr2 _) rfl ?_;clear S;intro a S
   clear hr2
   refine lv S (rn_ld Tryz.isAgg9 (off := o1) (o := 0) (S.tm rfl) (hm2.at S.emb) rfl) rfl ?_;clear S;intro a S
   refine lv S (Ra (S.tm rfl)) rfl ?_;clear S;intro a S
   refine Ld (Tn (Fs (Fg (lv S (Rm (S.tm rfl)) rfl ?_))));clear S;intro a S
   refine lv S (rn_seql (S.tm rfl) rfl) rfl ?_;clear S;intro a S
   refine Ld (Tn (f_cond (S.tm rfl) (fun hb1 => ?_) (fun hb1 => ?_)))
   ·replace h := iteT h hb1
    refine Fs (Fg (lv S (Ra rfl) rfl ?_));clear S;intro a S
    refine lv S (Ra rfl) rfl ?_;clear S;intro a S
    refine Ld (Tn (wp_ret (blk_r (then_r (then_r (blk_r ?_))))))
    refine then_r (then_r ?_)
    obtain rfl := Option.some.inj h
    exact f_ret2 S Tryz.results33 rfl rfl ⟨_, rfl, (ownV_nil _ _ _)⟩
   ·replace h := iteF h hb1
    refine wp_skip (blk_n (Tn (Fg (lv S (rn_add (S.tm rfl) rfl) rfl ?_))));clear S;intro a S
    refine lv S (Rm (S.tm rfl)) rfl ?_;clear S;intro a S
    refine Ld (Tn ?_)
    exact ⟨ys1, ⟨i1 + 1, ⟨_, (hd1).trans (List.append_cons _ _ _), by simp [hi1]⟩, h, S.nf [] rfl ⟨rfl, rfl, rfl, (congrArg (fun z => some (Value.int .i64 z)) (rng_next hd1 hi1 (slc_max (ownV_slcT enc_str hs1)))), trivial⟩⟩, Nat.lt_succ_self _⟩
 clear S h;rintro a w3 ⟨h, S⟩;rw [hj1] at h;clear hj1 j1
 refine Tn (Fs (Fg (lv S (Rm (S.tm rfl)) rfl ?_)));clear S;intro a S
 refine lv S (Ra (S.tm rfl)) rfl ?_;clear S;intro a S
 refine lv S (Ra rfl) rfl ?_;clear S;intro a S
 refine Ld (Tn (wp_ret ?_))
 obtain rfl := Option.some.inj h
 exact f_ret2 S Tryz.results33 rfl rfl ⟨_, rfl, ((hs1).mono S.le_newer)⟩
theorem strconv_Atoi_ok (w : World) (s : ByteArray) (r : Int) (h : strconv_Atoi s = some r) : Calls Tryz.prog 41 [sV s].toArray w (Ret w [] fun _ v _ => v = .tuple #[.int .i64 r, .nilIface]) := by
  unfold strconv_Atoi at h
  obtain ⟨hc, h⟩ := chkE h
  simp only [Bool.and_eq_true, decide_eq_true_eq] at hc
  exact ret_of_bytes (Any.strconv_Atoi Tryz.lays172 s r hc h w)
set_option maxRecDepth 20000 in
theorem swimmer_DayOf_ok (w : World) (V : GDate) (r : Int × Int) (h : swimmer_DayOf V = some r) :
    Calls Tryz.prog 44 [.agg (GDate.enc V).toArray].toArray w (Ret w [] fun _ v _ => v = .tuple #[iV r.1, iV r.2]) := by
 refine f_enter [] [] Tryz.func44 rfl Tryz.ntmps44 rfl (by simp) (by simp [fps]) (by simp [fps]) fun a S => ?_
 unfold swimmer_DayOf at h
 replace S := S.nk [] [(0, .agg (GDate.enc V).toArray)] [] rfl ⟨rfl, trivial⟩
 refine Fs (Fg (l_box S (S.tm rfl) (cs := (GDate.enc V)) rfl rfl ?_));clear S;intro a w1 b1 hz1 hk1 S
 refine lv S (Ra rfl) rfl ?_;clear S;intro a S
 refine lv S (Ra rfl) rfl ?_;clear S;intro a S
 refine Ld (Tn (Fs (Fs ?_)))
 obtain ⟨j1, hj1, h⟩ := joinE h
 refine f_join (fun a w' => ∃ x1 : Bool, j1 x1 = some r ∧ Sx w [] nov [.blk b1 (GDate.enc V) 53] [(1, .pointer (some ⟨b1, 0, none⟩)), (28, bV x1)] 68 a w') ?_ ?_
 ·rcases Bool.eq_false_or_eq_true (!(words_Within V.Year 1900 2100)) with hb1 | hb1
  ·replace h := iteT h hb1
   rcases Bool.eq_false_or_eq_true true with hb2 | hb2
   ·replace h := iteT h hb2
    refine d_region [] ([]) Tryz.mixed S rfl (by kernel_rfl) ?_;clear S;intro w6 hk5 hsel S
    refine d_quiet 0 S hsel rfl rfl rfl (by kernel_rfl) (by kernel_rfl) rfl (fun _ hw => (rn_fld fa_53_0 (S.tm rfl))) ?_;clear S;intro a S
    refine d_quiet 1 S hsel rfl rfl rfl (by kernel_rfl) (by kernel_rfl) rfl (fun _ hw => (rn_ld Tryz.isAgg3 (off := 0) (o := 0) (S.tm rfl) ((S.blk_mem (i := 0) (cells := (GDate.enc V)) (b := b1) (T := 53) rfl (ne_nil (e' := .blk b1 (GDate.enc V) 53))).kept hw) rfl)) ?_;clear S;intro a S
    refine d_loud1 2 (by kernel_rfl) rfl (l_enter S (fun _ => run_call (vs := [iV V.Year, iV 1900, iV 2100]) ⟨(S.tm rfl), rfl, rfl, trivial⟩ Tryz.call66) (words_Within_ok _ V.Year 1900 2100 _ rfl) rfl ?_);clear S;intro v4 a w7 hv4 hk6 hn4 S
    subst hv4
    refine Ld (d_next hk6 (d_rest [3, 4, 5, 6, 7, 8, 9, 10, 11, 12, 13, 14, 15, 16, 17, 18, 19, 20] hsel (by kernel_rfl) rfl ?_))
    clear hsel
    refine s_lv S rfl (rn_not (S.tm rfl)) rfl ?_;clear S;intro a S
    refine s_lv S rfl (Rm (S.tm rfl)) rfl ?_;clear S;intro a S
    iterate 4 (refine s_skip S rfl rfl rfl rfl (neq_t hb1) rfl ?_ rfl;clear S;intro a S)
    refine s_lv S rfl (rn_pick_b hb1 (S.tm rfl) rfl) rfl ?_;clear S;intro a S
    refine s_lv S rfl (Rm (S.tm rfl)) rfl ?_;clear S;intro a S
    iterate 9 (refine s_skip S rfl rfl rfl rfl (neq_t hb2) rfl ?_ rfl;clear S;intro a S)
    refine s_lv S rfl (rn_pick_b hb2 (S.tm rfl) rfl) rfl ?_;clear S;intro a S
    refine s_done ?_
    replace S := S.nk [.blk b1 (GDate.enc V) 53] [(1, .pointer (some ⟨b1, 0, none⟩)), (28, bV true)] [true] rfl (subR rfl)
    refine Tn ?_
    exact ⟨true, h, S.nf [true] rfl (subR rfl)⟩
   ·replace h := iteF h hb2
    refine d_region [] ([]) Tryz.mixed S rfl (by kernel_rfl) ?_;clear S;intro w11 hk10 hsel S
    refine d_quiet 0 S hsel rfl rfl rfl (by kernel_rfl) (by kernel_rfl) rfl (fun _ hw => (rn_fld fa_53_0 (S.tm rfl))) ?_;clear S;intro a S
    refine d_quiet 1 S hsel rfl rfl rfl (by kernel_rfl) (by kernel_rfl) rfl (fun _ hw => (rn_ld Tryz.isAgg3 (off := 0) (o := 0) (S.tm rfl) ((S.blk_mem (i := 0) (cells := (GDate.enc V)) (b := b1) (T := 53) rfl (ne_nil (e' := .blk b1 (GDate.enc V) 53))).kept hw) rfl)) ?_;clear S;intro a S
    refine d_loud1 2 (by kernel_rfl) rfl (l_enter S (fun _ => run_call (vs := [iV V.Year, iV 1900, iV 2100]) ⟨(S.tm rfl), rfl, rfl, trivial⟩ Tryz.call66) (words_Within_ok _ V.Year 1900 2100 _ rfl) rfl ?_);clear S;intro v8 a w12 hv8 hk11 hn8 S
    subst hv8
    refine Ld (d_next hk11 (d_quiet 3 S hsel rfl rfl rfl (by kernel_rfl) (by kernel_rfl) rfl (fun _ hw => (rn_not (S.tm rfl))) ?_));clear S;intro a S
    refine d_quiet 4 S hsel rfl rfl rfl (by kernel_rfl) (by kernel_rfl) rfl (fun _ hw => (Rm (S.tm rfl))) ?_;clear S;intro a S
    refine d_skip 5 S hsel rfl rfl rfl rfl (neq_t hb1) rfl (by kernel_rfl) (by kernel_rfl) rfl ?_;clear S;intro a S
    refine d_skip 6 S hsel rfl rfl rfl rfl (neq_t hb1) rfl (by kernel_rfl) (by kernel_rfl) rfl ?_;clear S;intro a S
    refine d_skip 7 S hsel rfl rfl rfl rfl (neq_t hb1) rfl (by kernel_rfl) (by kernel_rfl) rfl ?_;clear S;intro a S
    refine d_skip 8 S hsel rfl rfl rfl rfl (neq_t hb1) rfl (by kernel_rfl) (by kernel_rfl) rfl ?_;clear S;intro a S
    refine d_quiet 9 S hsel rfl rfl rfl (by kernel_rfl) (by kernel_rfl) rfl (fun _ hw => (rn_pick_b hb1 (S.tm rfl) rfl)) ?_;clear S;intro a S
    refine d_quiet 10 S hsel rfl rfl rfl (by kernel_rfl) (by kernel_rfl) rfl (fun _ hw => (Rm (S.tm rfl))) ?_;clear S;intro a S
    refine d_quiet_g 11 S hsel rfl rfl rfl rfl hb2 rfl rfl (by kernel_rfl) (by kernel_rfl) rfl (fun _ hw => (rn_fld fa_53_2 (S.tm rfl))) ?_;clear S;intro a S
    refine d_quiet_g 12 S hsel rfl rfl rfl rfl hb2 rfl rfl (by kernel_rfl) (by kernel_rfl) rfl (fun _ hw => (rn_ld Tryz.isAgg3 (off := 0) (o := 2) (S.tm rfl) ((S.blk_mem (i := 0) (cells := (GDate.enc V)) (b := b1) (T := 53) rfl (ne_nil (e' := .blk b1 (GDate.enc V) 53))).kept hw) rfl)) ?_;clear S;intro a S
    refine d_quiet_g 13 S hsel rfl rfl rfl rfl hb2 rfl rfl (by kernel_rfl) (by kernel_rfl) rfl (fun _ hw => (rn_fld fa_53_0 (S.tm rfl))) ?_;clear S;intro a S
    refine d_quiet_g 14 S hsel rfl rfl rfl rfl hb2 rfl rfl (by kernel_rfl) (by kernel_rfl) rfl (fun _ hw => (rn_ld Tryz.isAgg3 (off := 0) (o := 0) (S.tm rfl) ((S.blk_mem (i := 0) (cells := (GDate.enc V)) (b := b1) (T := 53) rfl (ne_nil (e' := .blk b1 (GDate.enc V) 53))).kept hw) rfl)) ?_;clear S;intro a S
    refine d_quiet_g 15 S hsel rfl rfl rfl rfl hb2 rfl rfl (by kernel_rfl) (by kernel_rfl) rfl (fun _ hw => (rn_fld fa_53_1 (S.tm rfl))) ?_;clear S;intro a S
    refine d_quiet_g 16 S hsel rfl rfl rfl rfl hb2 rfl rfl (by kernel_rfl) (by kernel_rfl) rfl (fun _ hw => (rn_ld Tryz.isAgg3 (off := 0) (o := 1) (S.tm rfl) ((S.blk_mem (i := 0) (cells := (GDate.enc V)) (b := b1) (T := 53) rfl (ne_nil (e' := .blk b1 (GDate.enc V) 53))).kept hw) rfl)) ?_;clear S;intro a S
    refine d_loud1 17 (by kernel_rfl) rfl (l_want S rfl rfl rfl hb2 (l_enter S (fun _ => run_call (vs := [iV V.Year, iV V.Month]) ⟨(S.tm rfl), (S.tm rfl), trivial⟩ Tryz.call50) (swimmer_long_ok _ V.Year V.Month _ rfl) rfl ?_));clear S;intro v9 a w13 hv9 hk12 hn9 S
    subst hv9
    refine Ld (d_next hk12 (d_loud1 18 (by kernel_rfl) rfl (l_want S rfl rfl rfl hb2 (l_enter S (fun _ => run_call (vs := [iV V.Day, iV 1, iV (swimmer_long V.Year V.Month)]) ⟨(S.tm rfl), rfl, (S.tm rfl), trivial⟩ Tryz.call66) (words_Within_ok _ V.Day 1 (swimmer_long V.Year V.Month) _ rfl) rfl ?_))));clear S;intro v10 a w14 hv10 hk13 hn10 S
    subst hv10
    refine Ld (d_next hk13 (d_rest [19, 20] hsel (by kernel_rfl) rfl ?_))
    clear hsel
    refine s_want S rfl rfl rfl rfl hb2 (s_lv0 S (rn_not (S.tm rfl)) rfl ?_);clear S;intro a S
    refine s_lv S rfl (rn_pick_c hb2 (S.tm rfl) (S.tm rfl)) rfl ?_;clear S;intro a S
    refine s_done ?_
    replace S := S.nk [.blk b1 (GDate.enc V) 53] [(1, .pointer (some ⟨b1, 0, none⟩)), (28, bV (!(words_Within V.Day 1 (swimmer_long V.Year V.Month))))] [true] rfl (subR rfl)
    refine Tn ?_
    exact ⟨!(words_Within V.Day 1 (swimmer_long V.Year V.Month)), h, S.nf [true] rfl (subR rfl)⟩
  ·replace h := iteF h hb1
   rcases Bool.eq_false_or_eq_true (!(words_Within V.Month 1 12)) with hb3 | hb3
   ·replace h := iteT h hb3
    refine d_region [] ([]) Tryz.mixed S rfl (by kernel_rfl) ?_;clear S;intro w19 hk18 hsel S
    refine d_quiet 0 S hsel rfl rfl rfl (by kernel_rfl) (by kernel_rfl) rfl (fun _ hw => (rn_fld fa_53_0 (S.tm rfl))) ?_;clear S;intro a S
    refine d_quiet 1 S hsel rfl rfl rfl (by kernel_rfl) (by kernel_rfl) rfl (fun _ hw => (rn_ld Tryz.isAgg3 (off := 0) (o := 0) (S.tm rfl) ((S.blk_mem (i := 0) (cells := (GDate.enc V)) (b := b1) (T := 53) rfl (ne_nil (e' := .blk b1 (GDate.enc V) 53))).kept hw) rfl)) ?_;clear S;intro a S
    refine d_loud1 2 (by kernel_rfl) rfl (l_enter S (fun _ => run_call (vs := [iV V.Year, iV 1900, iV 2100]) ⟨(S.tm rfl), rfl, rfl, trivial⟩ Tryz.call66) (words_Within_ok _ V.Year 1900 2100 _ rfl) rfl ?_);clear S;intro v15 a w20 hv15 hk19 hn15 S
    subst hv15
    refine Ld (d_next hk19 (d_quiet 3 S hsel rfl rfl rfl (by kernel_rfl) (by kernel_rfl) rfl (fun _ hw => (rn_not (S.tm rfl))) ?_));clear S;intro a S
    refine d_quiet 4 S hsel rfl rfl rfl (by kernel_rfl) (by kernel_rfl) rfl (fun _ hw => (Rm (S.tm rfl))) ?_;clear S;intro a S
    refine d_quiet_g 5 S hsel rfl rfl rfl rfl hb1 rfl rfl (by kernel_rfl) (by kernel_rfl) rfl (fun _ hw => (rn_fld fa_53_1 (S.tm rfl))) ?_;clear S;intro a S
    refine d_quiet_g 6 S hsel rfl rfl rfl rfl hb1 rfl rfl (by kernel_rfl) (by kernel_rfl) rfl (fun _ hw => (rn_ld Tryz.isAgg3 (off := 0) (o := 1) (S.tm rfl) ((S.blk_mem (i := 0) (cells := (GDate.enc V)) (b := b1) (T := 53) rfl (ne_nil (e' := .blk b1 (GDate.enc V) 53))).kept hw) rfl)) ?_;clear S;intro a S
    refine d_loud1 7 (by kernel_rfl) rfl (l_want S rfl rfl rfl hb1 (l_enter S (fun _ => run_call (vs := [iV V.Month, iV 1, iV 12]) ⟨(S.tm rfl), rfl, rfl, trivial⟩ Tryz.call66) (words_Within_ok _ V.Month 1 12 _ rfl) rfl ?_));clear S;intro v16 a w21 hv16 hk20 hn16 S
    subst hv16
    refine Ld (d_next hk20 (d_rest [8, 9, 10, 11, 12, 13, 14, 15, 16, 17, 18, 19, 20] hsel (by kernel_rfl) rfl ?_))
    clear hsel
    refine s_want S rfl rfl rfl rfl hb1 (s_lv0 S (rn_not (S.tm rfl)) rfl ?_);clear S;intro a S
    refine s_lv S rfl (rn_pick_c hb1 (S.tm rfl) (S.tm rfl)) rfl ?_;clear S;intro a S
    refine s_lv S rfl (Rm (S.tm rfl)) rfl ?_;clear S;intro a S
    iterate 9 (refine s_skip S rfl rfl rfl rfl (neq_t hb3) rfl ?_ rfl;clear S;intro a S)
    refine s_lv S rfl (rn_pick_b hb3 (S.tm rfl) rfl) rfl ?_;clear S;intro a S
    refine s_done ?_
    replace S := S.nk [.blk b1 (GDate.enc V) 53] [(1, .pointer (some ⟨b1, 0, none⟩)), (28, bV true)] [true] rfl (subR rfl)
    refine Tn ?_
    exact ⟨true, h, S.nf [true] rfl (subR rfl)⟩
   ·replace h := iteF h hb3
    refine d_region [] ([]) Tryz.mixed S rfl (by kernel_rfl) ?_;clear S;intro w26 hk25 hsel S
    refine d_quiet 0 S hsel rfl rfl rfl (by kernel_rfl) (by kernel_rfl) rfl (fun _ hw => (rn_fld fa_53_0 (S.tm rfl))) ?_;clear S;intro a S
    refine d_quiet 1 S hsel rfl rfl rfl (by kernel_rfl) (by kernel_rfl) rfl (fun _ hw => (rn_ld Tryz.isAgg3 (off := 0) (o := 0) (S.tm rfl) ((S.blk_mem (i := 0) (cells := (GDate.enc V)) (b := b1) (T := 53) rfl (ne_nil (e' := .blk b1 (GDate.enc V) 53))).kept hw) rfl)) ?_;clear S;intro a S
    refine d_loud1 2 (by kernel_rfl) rfl (l_enter S (fun _ => run_call (vs := [iV V.Year, iV 1900, iV 2100]) ⟨(S.tm rfl), rfl, rfl, trivial⟩ Tryz.call66) (words_Within_ok _ V.Year 1900 2100 _ rfl) rfl ?_);clear S;intro v21 a w27 hv21 hk26 hn21 S
    subst hv21
    refine Ld (d_next hk26 (d_quiet 3 S hsel rfl rfl rfl (by kernel_rfl) (by kernel_rfl) rfl (fun _ hw => (rn_not (S.tm rfl))) ?_));clear S;intro a S
    refine d_quiet 4 S hsel rfl rfl rfl (by kernel_rfl) (by kernel_rfl) rfl (fun _ hw => (Rm (S.tm rfl))) ?_;clear S;intro a S
    refine d_quiet_g 5 S hsel rfl rfl rfl rfl hb1 rfl rfl (by kernel_rfl) (by kernel_rfl) rfl (fun _ hw => (rn_fld fa_53_1 (S.tm rfl))) ?_;clear S;intro a S
    refine d_quiet_g 6 S hsel rfl rfl rfl rfl hb1 rfl rfl (by kernel_rfl) (by kernel_rfl) rfl (fun _ hw => (rn_ld Tryz.isAgg3 (off := 0) (o := 1) (S.tm rfl) ((S.blk_mem (i := 0) (cells := (GDate.enc V)) (b := b1) (T := 53) rfl (ne_nil (e' := .blk b1 (GDate.enc V) 53))).kept hw) rfl)) ?_;clear S;intro a S
    refine d_loud1 7 (by kernel_rfl) rfl (l_want S rfl rfl rfl hb1 (l_enter S (fun _ => run_call (vs := [iV V.Month, iV 1, iV 12]) ⟨(S.tm rfl), rfl, rfl, trivial⟩ Tryz.call66) (words_Within_ok _ V.Month 1 12 _ rfl) rfl ?_));clear S;intro v22 a w28 hv22 hk27 hn22 S
    subst hv22
    refine Ld (d_next hk27 (d_quiet_g 8 S hsel rfl rfl rfl rfl hb1 rfl rfl (by kernel_rfl) (by kernel_rfl) rfl (fun _ hw => (rn_not (S.tm rfl))) ?_));clear S;intro a S
    refine d_quiet 9 S hsel rfl rfl rfl (by kernel_rfl) (by kernel_rfl) rfl (fun _ hw => (rn_pick_c hb1 (S.tm rfl) (S.tm rfl))) ?_;clear S;intro a S
    refine d_quiet 10 S hsel rfl rfl rfl (by kernel_rfl) (by kernel_rfl) rfl (fun _ hw => (Rm (S.tm rfl))) ?_;clear S;intro a S
    refine d_quiet_g 11 S hsel rfl rfl rfl rfl hb3 rfl rfl (by kernel_rfl) (by kernel_rfl) rfl (fun _ hw => (rn_fld fa_53_2 (S.tm rfl))) ?_;clear S;intro a S
    refine d_quiet_g 12 S hsel rfl rfl rfl rfl hb3 rfl rfl (by kernel_rfl) (by kernel_rfl) rfl (fun _ hw => (rn_ld Tryz.isAgg3 (off := 0) (o := 2) (S.tm rfl) ((S.blk_mem (i := 0) (cells := (GDate.enc V)) (b := b1) (T := 53) rfl (ne_nil (e' := .blk b1 (GDate.enc V) 53))).kept hw) rfl)) ?_;clear S;intro a S
    refine d_quiet_g 13 S hsel rfl rfl rfl rfl hb3 rfl rfl (by kernel_rfl) (by kernel_rfl) rfl (fun _ hw => (rn_fld fa_53_0 (S.tm rfl))) ?_;clear S;intro a S
    refine d_quiet_g 14 S hsel rfl rfl rfl rfl hb3 rfl rfl (by kernel_rfl) (by kernel_rfl) rfl (fun _ hw => (rn_ld Tryz.isAgg3 (off := 0) (o := 0) (S.tm rfl) ((S.blk_mem (i := 0) (cells := (GDate.enc V)) (b := b1) (T := 53) rfl (ne_nil (e' := .blk b1 (GDate.enc V) 53))).kept hw) rfl)) ?_;clear S;intro a S
    refine d_quiet_g 15 S hsel rfl rfl rfl rfl hb3 rfl rfl (by kernel_rfl) (by kernel_rfl) rfl (fun _ hw => (rn_fld fa_53_1 (S.tm rfl))) ?_;clear S;intro a S
    refine d_quiet_g 16 S hsel rfl rfl rfl rfl hb3 rfl rfl (by kernel_rfl) (by kernel_rfl) rfl (fun _ hw => (rn_ld Tryz.isAgg3 (off := 0) (o := 1) (S.tm rfl) ((S.blk_mem (i := 0) (cells := (GDate.enc V)) (b := b1) (T := 53) rfl (ne_nil (e' := .blk b1 (GDate.enc V) 53))).kept hw) rfl)) ?_;clear S;intro a S
    refine d_loud1 17 (by kernel_rfl) rfl (l_want S rfl rfl rfl hb3 (l_enter S (fun _ => run_call (vs := [iV V.Year, iV V.Month]) ⟨(S.tm rfl), (S.tm rfl), trivial⟩ Tryz.call50) (swimmer_long_ok _ V.Year V.Month _ rfl) rfl ?_));clear S;intro v23 a w29 hv23 hk28 hn23 S
    subst hv23
    refine Ld (d_next hk28 (d_loud1 18 (by kernel_rfl) rfl (l_want S rfl rfl rfl hb3 (l_enter S (fun _ => run_call (vs := [iV V.Day, iV 1, iV (swimmer_long V.Year V.Month)]) ⟨(S.tm rfl), rfl, (S.tm rfl), trivial⟩ Tryz.call66) (words_Within_ok _ V.Day 1 (swimmer_long V.Year V.Month) _ rfl) rfl ?_))));clear S;intro v24 a w30 hv24 hk29 hn24 S
    subst hv24
    refine Ld (d_next hk29 (d_rest [19, 20] hsel (by kernel_rfl) rfl ?_))
    clear hsel
    refine s_want S rfl rfl rfl rfl hb3 (s_lv0 S (rn_not (S.tm rfl)) rfl ?_);clear S;intro a S
    refine s_lv S rfl (rn_pick_c hb3 (S.tm rfl) (S.tm rfl)) rfl ?_;clear S;intro a S
    refine s_done ?_
    replace S := S.nk [.blk b1 (GDate.enc V) 53] [(1, .pointer (some ⟨b1, 0, none⟩)), (28, bV (!(words_Within V.Day 1 (swimmer_long V.Year V.Month))))] [true] rfl (subR rfl)
    refine Tn ?_
    exact ⟨!(words_Within V.Day 1 (swimmer_long V.Year V.Month)), h, S.nf [true] rfl (subR rfl)⟩
 clear S h;rintro a w2 ⟨x1, h, S⟩;rw [hj1] at h;clear hj1 j1
 refine Tn (f_cond (S.tm rfl) (fun hb4 => ?_) (fun hb4 => ?_))
 ·replace h := iteT h hb4
  refine Fs (Fg (lv S (Ra rfl) rfl ?_));clear S;intro a S
  refine lv S (Ra rfl) rfl ?_;clear S;intro a S
  refine Ld (Tn (wp_ret (then_r ?_)))
  obtain rfl := Option.some.inj h
  exact f_ret2 S Tryz.results44 rfl rfl rfl
 ·replace h := iteF h hb4
  refine wp_skip (Tn (Fs (Fg (lv S (rn_fld fa_53_2 (S.tm rfl)) rfl ?_))));clear S;intro a S
  refine lv S (rn_load Tryz.isAgg3 (S.tm rfl) (S.cell (i := 0) rfl rfl)) rfl ?_;clear S;intro a S
  refine lv S (rn_sub (S.tm rfl) rfl) rfl ?_;clear S;intro a S
  refine lv S (Ra (S.tm rfl)) rfl ?_;clear S;intro a S
  refine Ld (Tn (Fs (Fs (Fg (lv S (Ra rfl) rfl ?_)))));clear S;intro a S
  refine Ld (Tn ?_)
  replace S := S.nk [.blk b1 (GDate.enc V) 53] [(1, .pointer (some ⟨b1, 0, none⟩)), (4, iV (W (V.Day - 1))), (5, iV 1)] [true] rfl (subR rfl)
  obtain ⟨j2, hj2, h⟩ := joinE h
  refine f_join (fun a w' => ∃ x2 : Int, j2 x2 = some r ∧ Sx w [] nov [.blk b1 (GDate.enc V) 53] [(1, .pointer (some ⟨b1, 0, none⟩)), (4, iV x2)] 68 a w') ?_ ?_
  ·refine wp_block (f_loop (fun (m1 : Nat) a w' => ∃ x2 : Int, ∃ x3 : Int, swimmer_DayOf_l1 V j2 m1 x2 x3 = some r ∧ Sx w [] nov [.blk b1 (GDate.enc V) 53] [(1, .pointer (some ⟨b1, 0, none⟩)), (4, iV x2), (5, iV x3)] 68 a w') id ((V.Month - 1).toNat + 2) ⟨W (V.Day - 1), 1, h, S.nf [true] rfl (subR rfl)⟩ ?_)
   clear S h;rintro m1 a w31 ⟨x2, x3, h, S⟩
   cases m1 with
   | zero => rw [swimmer_DayOf_l1.eq_1] at h;cases h
   | succ m1 =>
    rw [swimmer_DayOf_l1.eq_2] at h
    refine Fs (Fs (Fg (lv S (Rm (S.tm rfl)) rfl ?_)));clear S;intro a S
    refine lv S (rn_fld fa_53_1 (S.tm rfl)) rfl ?_;clear S;intro a S
    refine lv S (rn_load Tryz.isAgg3 (S.tm rfl) (S.cell (i := 0) rfl rfl)) rfl ?_;clear S;intro a S
    refine lv S (rn_lss (S.tm rfl) (S.tm rfl)) rfl ?_;clear S;intro a S
    refine Ld (Tn (f_cond (S.tm rfl) (fun hb5 => ?_) (fun hb5 => ?_)))
    ·replace h := iteT h hb5
     refine wp_skip (Tn (Fs (wp_block (Fg (lv S (Rm (S.tm rfl)) rfl ?_)))));clear S;intro a S
     refine lv S (rn_fld fa_53_0 (S.tm rfl)) rfl ?_;clear S;intro a S
     refine lv S (rn_load Tryz.isAgg3 (S.tm rfl) (S.cell (i := 0) rfl rfl)) rfl ?_;clear S;intro a S
     refine lv S (Rm (S.tm rfl)) rfl ?_;clear S;intro a S
     refine l_enter S (fun _ => run_call (vs := [iV V.Year, iV x3]) ⟨(S.tm rfl), (S.tm rfl), trivial⟩ Tryz.call50) (swimmer_long_ok _ V.Year x3 _ rfl) rfl ?_;clear S;intro v25 a w33 hv25 hk30 hn25 S
     subst hv25
     refine lv S (rn_add (S.tm rfl) (S.tm rfl)) rfl ?_;clear S;intro a S
     refine lv S (Ra (S.tm rfl)) rfl ?_;clear S;intro a S
     refine Ld (blk_n (Tn (Fg (lv S (Rm (S.tm rfl)) rfl ?_))));clear S;intro a S
     refine lv S (rn_add (S.tm rfl) rfl) rfl ?_;clear S;intro a S
     refine lv S (Ra (S.tm rfl)) rfl ?_;clear S;intro a S
     refine Ld ?_
     replace S := S.nk [.blk b1 (GDate.enc V) 53] [(1, .pointer (some ⟨b1, 0, none⟩)), (4, iV (W (x2 + (swimmer_long V.Year x3)))), (5, iV (W (x3 + 1)))] [true] rfl (subR rfl)
     refine Tn ?_
     exact ⟨m1, ⟨W (x2 + (swimmer_long V.Year x3)), W (x3 + 1), h, S.nf [true] rfl ⟨rfl, rfl, rfl, trivial⟩⟩, Nat.lt_succ_self _⟩
    ·replace h := iteF h hb5
     refine wp_exit (then_x (then_x (x_same (Tn ?_))))
     exact ⟨x2, h, S.nf [true] rfl (subR rfl)⟩
  clear S h;rintro a w32 ⟨x2, h, S⟩;rw [hj2] at h;clear hj2 j2
  refine Tn (Fs (Fs (Fg (lv S (Ra rfl) rfl ?_))));clear S;intro a S
  refine Ld (Tn ?_)
  replace S := S.nk [.blk b1 (GDate.enc V) 53] [(1, .pointer (some ⟨b1, 0, none⟩)), (4, iV x2), (6, iV 2024)] [true] rfl (subR rfl)
  obtain ⟨j3, hj3, h⟩ := joinE h
  refine f_join (fun a w' => ∃ x4 : Int, j3 x4 = some r ∧ Sx w [] nov [.blk b1 (GDate.enc V) 53] [(1, .pointer (some ⟨b1, 0, none⟩)), (4, iV x4)] 68 a w') ?_ ?_
  ·refine wp_block (f_loop (fun (m2 : Nat) a w' => ∃ x4 : Int, ∃ x5 : Int, swimmer_DayOf_l2 V j3 m2 x4 x5 = some r ∧ Sx w [] nov [.blk b1 (GDate.enc V) 53] [(1, .pointer (some ⟨b1, 0, none⟩)), (4, iV x4), (6, iV x5)] 68 a w') id ((V.Year - 2024).toNat + 2) ⟨x2, 2024, h, S.nf [true] rfl (subR rfl)⟩ ?_)
   clear S h;rintro m2 a w34 ⟨x4, x5, h, S⟩
   cases m2 with
   | zero => rw [swimmer_DayOf_l2.eq_1] at h;cases h
   | succ m2 =>
    rw [swimmer_DayOf_l2.eq_2] at h
    refine Fs (Fs (Fg (lv S (Rm (S.tm rfl)) rfl ?_)));clear S;intro a S
    refine lv S (rn_fld fa_53_0 (S.tm rfl)) rfl ?_;clear S;intro a S
    refine lv S (rn_load Tryz.isAgg3 (S.tm rfl) (S.cell (i := 0) rfl rfl)) rfl ?_;clear S;intro a S
    refine lv S (rn_lss (S.tm rfl) (S.tm rfl)) rfl ?_;clear S;intro a S
    refine Ld (Tn (f_cond (S.tm rfl) (fun hb6 => ?_) (fun hb6 => ?_)))
    ·replace h := iteT h hb6
     refine wp_skip (Tn (Fs (wp_block (Fg (lv S (Rm (S.tm rfl)) rfl ?_)))));clear S;intro a S
     refine lv S (Rm (S.tm rfl)) rfl ?_;clear S;intro a S
     refine l_enter S (fun _ => run_call (vs := [iV x5]) ⟨(S.tm rfl), trivial⟩ Tryz.call49) (swimmer_yearLong_ok _ x5 _ rfl) rfl ?_;clear S;intro v26 a w36 hv26 hk31 hn26 S
     subst hv26
     refine lv S (rn_add (S.tm rfl) (S.tm rfl)) rfl ?_;clear S;intro a S
     refine lv S (Ra (S.tm rfl)) rfl ?_;clear S;intro a S
     refine Ld (blk_n (Tn (Fg (lv S (Rm (S.tm rfl)) rfl ?_))));clear S;intro a S
     refine lv S (rn_add (S.tm rfl) rfl) rfl ?_;clear S;intro a S
     refine lv S (Ra (S.tm rfl)) rfl ?_;clear S;intro a S
     refine Ld (Tn ?_)
     exact ⟨m2, ⟨W (x4 + (swimmer_yearLong x5)), W (x5 + 1), h, S.nf [true] rfl ⟨rfl, rfl, rfl, trivial⟩⟩, Nat.lt_succ_self _⟩
    ·replace h := iteF h hb6
     refine wp_exit (then_x (then_x (x_same (Tn ?_))))
     exact ⟨x4, h, S.nf [true] rfl (subR rfl)⟩
  clear S h;rintro a w35 ⟨x4, h, S⟩;rw [hj3] at h;clear hj3 j3
  refine Tn (Fs (Fs (Fg (lv S (rn_fld fa_53_0 (S.tm rfl)) rfl ?_))));clear S;intro a S
  refine lv S (rn_load Tryz.isAgg3 (S.tm rfl) (S.cell (i := 0) rfl rfl)) rfl ?_;clear S;intro a S
  refine lv S (Ra (S.tm rfl)) rfl ?_;clear S;intro a S
  refine Ld (Tn ?_)
  replace S := S.nk [] [(4, iV x4), (7, iV V.Year)] [false] rfl (subR rfl)
  obtain ⟨j4, hj4, h⟩ := joinE h
  refine f_join (fun a w' => ∃ x6 : Int, j4 x6 = some r ∧ Sx w [] nov [] [(4, iV x6)] 68 a w') ?_ ?_
  ·refine wp_block (f_loop (fun (m3 : Nat) a w' => ∃ x6 : Int, ∃ x7 : Int, swimmer_DayOf_l3 j4 m3 x6 x7 = some r ∧ Sx w [] nov [] [(4, iV x6), (7, iV x7)] 68 a w') id ((2024 - V.Year).toNat + 2) ⟨x4, V.Year, h, S.nf [] rfl (subR rfl)⟩ ?_)
   clear S h;rintro m3 a w37 ⟨x6, x7, h, S⟩
   cases m3 with
   | zero => rw [swimmer_DayOf_l3.eq_1] at h;cases h
   | succ m3 =>
    rw [swimmer_DayOf_l3.eq_2] at h
    refine Fs (Fs (Fg (lv S (Rm (S.tm rfl)) rfl ?_)));clear S;intro a S
    refine lv S (rn_lss (S.tm rfl) rfl) rfl ?_;clear S;intro a S
    refine Ld (Tn (f_cond (S.tm rfl) (fun hb7 => ?_) (fun hb7 => ?_)))
    ·replace h := iteT h hb7
     refine wp_skip (Tn (Fs (wp_block (Fg (lv S (Rm (S.tm rfl)) rfl ?_)))));clear S;intro a S
     refine lv S (Rm (S.tm rfl)) rfl ?_;clear S;intro a S
     refine l_enter S (fun _ => run_call (vs := [iV x7]) ⟨(S.tm rfl), trivial⟩ Tryz.call49) (swimmer_yearLong_ok _ x7 _ rfl) rfl ?_;clear S;intro v27 a w39 hv27 hk32 hn27 S
     subst hv27
     refine lv S (rn_sub (S.tm rfl) (S.tm rfl)) rfl ?_;clear S;intro a S
     refine lv S (Ra (S.tm rfl)) rfl ?_;clear S;intro a S
     refine Ld (blk_n (Tn (Fg (lv S (Rm (S.tm rfl)) rfl ?_))));clear S;intro a S
     refine lv S (rn_add (S.tm rfl) rfl) rfl ?_;clear S;intro a S
     refine lv S (Ra (S.tm rfl)) rfl ?_;clear S;intro a S
     refine Ld (Tn ?_)
     exact ⟨m3, ⟨W (x6 - (swimmer_yearLong x7)), W (x7 + 1), h, S.nf [] rfl ⟨rfl, rfl, trivial⟩⟩, Nat.lt_succ_self _⟩
    ·replace h := iteF h hb7
     refine wp_exit (then_x (then_x (x_same (Tn ?_))))
     exact ⟨x6, h, S.nf [] rfl ⟨rfl, trivial⟩⟩
  clear S h;rintro a w38 ⟨x6, h, S⟩;rw [hj4] at h;clear hj4 j4
  refine Tn (Fs (Fs (Fg (lv S (Rm (S.tm rfl)) rfl ?_))));clear S;intro a S
  refine l_enter S (fun _ => run_call (vs := [iV x6]) ⟨(S.tm rfl), trivial⟩ Tryz.call48) (swimmer_isDay_ok _ x6 _ rfl) rfl ?_;clear S;intro v28 a w40 hv28 hk33 hn28 S
  subst hv28
  refine lv S (rn_not (S.tm rfl)) rfl ?_;clear S;intro a S
  refine Ld (Tn (f_cond (S.tm rfl) (fun hb8 => ?_) (fun hb8 => ?_)))
  ·replace h := iteT h hb8
   refine Fs (Fg (lv S (Ra rfl) rfl ?_));clear S;intro a S
   refine lv S (Ra rfl) rfl ?_;clear S;intro a S
   refine Ld (Tn (wp_ret (then_r ?_)))
   obtain rfl := Option.some.inj h
   exact f_ret2 S Tryz.results44 rfl rfl rfl
  ·replace h := iteF h hb8
   refine wp_skip (Tn (Fs (Fg (lv S (Rm (S.tm rfl)) rfl ?_))));clear S;intro a S
   refine lv S (Ra (S.tm rfl)) rfl ?_;clear S;intro a S
   refine lv S (Ra rfl) rfl ?_;clear S;intro a S
   refine Ld (Tn (wp_ret ?_))
   obtain rfl := Option.some.inj h
   exact f_ret2 S Tryz.results44 rfl rfl rfl
set_option maxRecDepth 20000 in
theorem swimmer_readDate_ok (w : World) (Ad : ByteArray) (r : Int × Bool) (h : swimmer_readDate Ad = some r) :
    Calls Tryz.prog 34 [sV Ad].toArray w (Ret w [] fun _ v _ => v = .tuple #[iV r.1, bV r.2]) := by
 refine f_enter [] [] Tryz.func34 rfl Tryz.ntmps34 rfl (by simp) (by simp [fps]) (by simp [fps]) fun a S => ?_
 unfold swimmer_readDate at h
 replace S := S.nk [] [(0, sV Ad)] [] rfl ⟨rfl, trivial⟩
 refine Fs (Fg (lv S (Ra rfl) rfl ?_));clear S;intro a S
 refine lv S (Ra rfl) rfl ?_;clear S;intro a S
 refine Ld (Tn (Fs (Fs (Fg (lv S (Rm (S.tm rfl)) rfl ?_)))));clear S;intro a S
 refine lv S (rn_len_str Tryz.underlying9 (S.tm rfl)) rfl ?_;clear S;intro a S
 refine lv S (rn_neq (S.tm rfl) rfl) rfl ?_;clear S;intro a S
 refine lv S (Rm (S.tm rfl)) rfl ?_;clear S;intro a S
 obtain ⟨j1, hj1, h⟩ := joinE h
 refine f_cutm 4 (fun a w' => ∃ c1, j1 c1 = some r ∧ Keep [] w w' ∧ Sx w [] nov [] [(0, sV Ad), (18, bV c1)] 66 a w') ?_ ?_
 ·rcases Bool.eq_false_or_eq_true (!decide ((Ad.size : Int) = 10)) with hb1 | hb1
  ·replace h := iteT h hb1
   iterate 3 (refine l_skip S rfl rfl rfl (neq_t hb1) rfl ?_ rfl;clear S;intro a S)
   refine lv S (rn_or_t true hb1 (S.tm rfl) rfl) rfl ?_;clear S;intro a S
   refine Ld (Tn ?_)
   exact ⟨_, h, Keep.refl _ _, S.nf [] rfl (subR rfl)⟩
  ·replace h := iteF h hb1
   refine l_want S rfl rfl rfl hb1 (lv S (Rm (S.tm rfl)) rfl ?_);clear S;intro a S
   refine l_want S rfl rfl rfl hb1 ?_
   obtain ⟨hc1, h⟩ := chkE h
   refine lv S (rn_sindexT Tryz.underlying9 (S.tm rfl) rfl hc1) rfl ?_;clear S;intro a S
   refine l_want S rfl rfl rfl hb1 (lv S (rn_neq (S.tm rfl) rfl) rfl ?_);clear S;intro a S
   refine lv S (rn_or_f hb1 (S.tm rfl) (S.tm rfl)) rfl ?_;clear S;intro a S
   refine Ld (Tn ?_)
   exact ⟨_, h, Keep.refl _ _, S.nf [] rfl (subR rfl)⟩
 clear S h;rintro a w1 ⟨c1, h, hk1, S⟩;rw [hj1] at h;clear hj1 j1
 refine lv S (Rm (S.tm rfl)) rfl ?_;clear S;intro a S
 obtain ⟨j2, hj2, h⟩ := joinE h
 refine f_cutm 4 (fun a w' => ∃ c2, j2 c2 = some r ∧ Keep [] w1 w' ∧ Sx w [] nov [] [(0, sV Ad), (23, bV c2)] 66 a w') ?_ ?_
 ·rcases Bool.eq_false_or_eq_true c1 with hb2 | hb2
  ·replace h := iteT h hb2
   iterate 3 (refine l_skip S rfl rfl rfl (neq_t hb2) rfl ?_ rfl;clear S;intro a S)
   refine lv S (rn_or_t true hb2 (S.tm rfl) rfl) rfl ?_;clear S;intro a S
   refine Ld (Tn ?_)
   exact ⟨_, h, Keep.refl _ _, S.nf [] rfl (subR rfl)⟩
  ·replace h := iteF h hb2
   refine l_want S rfl rfl rfl hb2 (lv S (Rm (S.tm rfl)) rfl ?_);clear S;intro a S
   refine l_want S rfl rfl rfl hb2 ?_
   obtain ⟨hc2, h⟩ := chkE h
   refine lv S (rn_sindexT Tryz.underlying9 (S.tm rfl) rfl hc2) rfl ?_;clear S;intro a S
   refine l_want S rfl rfl rfl hb2 (lv S (rn_neq (S.tm rfl) rfl) rfl ?_);clear S;intro a S
   refine lv S (rn_or_f hb2 (S.tm rfl) (S.tm rfl)) rfl ?_;clear S;intro a S
   refine Ld (Tn ?_)
   exact ⟨_, h, Keep.refl _ _, S.nf [] rfl (subR rfl)⟩
 clear S h;rintro a w2 ⟨c2, h, hk2, S⟩;rw [hj2] at h;clear hj2 j2
 refine Ld (Tn (f_cond (S.tm rfl) (fun hb3 => ?_) (fun hb3 => ?_)))
 ·replace h := iteT h hb3
  refine Fs (Fg (lv S (Ra rfl) rfl ?_));clear S;intro a S
  refine lv S (Ra rfl) rfl ?_;clear S;intro a S
  refine Ld (Tn (wp_ret (then_r ?_)))
  obtain rfl := Option.some.inj h
  exact f_ret2 S Tryz.results34 rfl rfl rfl
 ·replace h := iteF h hb3
  refine wp_skip (Tn (Fs (Fg (lv S (Ra rfl) rfl ?_))));clear S;intro a S
  replace S := S.nil 3 1
  refine Ld (Tn (Fs (Fs ?_)))
  obtain ⟨hc3, h⟩ := chkE h
  obtain ⟨hc4, h⟩ := chkE h
  obtain ⟨hc5, h⟩ := chkE h
  refine d_region [] ([]) Tryz.mixed S rfl (by kernel_rfl) ?_;clear S;intro w4 hk4 hsel S
  refine d_quiet 0 S hsel rfl rfl rfl (by kernel_rfl) (by kernel_rfl) rfl (fun _ hw => (Rm (S.tm rfl))) ?_;clear S;intro a S
  refine d_quiet 1 S hsel rfl rfl rfl (by kernel_rfl) (by kernel_rfl) rfl (fun _ hw => (rn_scutTh Tryz.underlying9 (S.tm rfl) rfl hc3)) ?_;clear S;intro a S
  refine d_quiet 2 S hsel rfl rfl rfl (by kernel_rfl) (by kernel_rfl) rfl (fun _ hw => (Rm (S.tm rfl))) ?_;clear S;intro a S
  refine d_quiet 3 S hsel rfl rfl rfl (by kernel_rfl) (by kernel_rfl) rfl (fun _ hw => (rn_scutT2 Tryz.underlying9 (S.tm rfl) rfl rfl hc4)) ?_;clear S;intro a S
  refine d_quiet 4 S hsel rfl rfl rfl (by kernel_rfl) (by kernel_rfl) rfl (fun _ hw => (Rm (S.tm rfl))) ?_;clear S;intro a S
  refine d_quiet 5 S hsel rfl rfl rfl (by kernel_rfl) (by kernel_rfl) rfl (fun _ hw => (rn_scutTl Tryz.underlying9 (S.tm rfl) rfl hc5)) ?_;clear S;intro a S
  refine d_quiet 8 S hsel rfl rfl rfl (by kernel_rfl) (by kernel_rfl) rfl (fun _ hw => (Rm rfl)) ?_;clear S;intro a S
  refine d_loud1 6 (by kernel_rfl) rfl (l_buildSlice S Tryz.underlying65 Tryz.sizeOf9 Tryz.zeroValue9 rfl rfl (pv := [(0, sV (scut Ad 0 4)), (1, sV (scut Ad 5 7)), (2, sV (scut Ad 8 Ad.size))]) ⟨rfl, (S.tm rfl), rfl, (S.tm rfl), rfl, (S.tm rfl), trivial⟩ (cs := [sV (scut Ad 0 4), sV (scut Ad 5 7), sV (scut Ad 8 Ad.size)]) (by kernel_rfl) rfl ?_);clear S;intro a w5 b2 hz2 hk5 S
  refine Ld (d_next hk5 (d_rest [7] hsel (by kernel_rfl) rfl ?_))
  clear hsel
  refine s_lv S rfl (rn_lenT sl_65 (S.tm rfl) ⟨_, _, rfl⟩) rfl ?_;clear S;intro a S
  refine s_done ?_
  replace S := S.nk [.blk b2 [sV (scut Ad 0 4), sV (scut Ad 5 7), sV (scut Ad 8 Ad.size)] 9, .own (.slice none 0 0) 3 1 ([] : List Int).length (([] : List Int).flatMap eInt)] [(4, (.slice none 0 0)), (30, .slice (some ⟨b2, 0, none⟩) 3 3), (31, iV (([scut Ad 0 4, scut Ad 5 7, scut Ad 8 Ad.size] : List ByteArray).length : Int)), (32, iV 0)] [true, true] rfl (subR rfl)
  refine Tn ?_
  replace S := S.litOwn (i := 0) (xs := [scut Ad 0 4, scut Ad 5 7, scut Ad 8 Ad.size]) rfl enc_str rfl rfl rfl
  replace S := S.nk [.own (.slice (some ⟨b2, 0, none⟩) 3 3) 9 1 ([scut Ad 0 4, scut Ad 5 7, scut Ad 8 Ad.size] : List ByteArray).length (([scut Ad 0 4, scut Ad 5 7, scut Ad 8 Ad.size] : List ByteArray).flatMap eStr), .own (.slice none 0 0) 3 1 ([] : List Int).length (([] : List Int).flatMap eInt)] [(4, (.slice none 0 0)), (30, (.slice (some ⟨b2, 0, none⟩) 3 3)), (31, iV (([scut Ad 0 4, scut Ad 5 7, scut Ad 8 Ad.size] : List ByteArray).length : Int)), (32, iV 0)] [] rfl (subR rfl)
  obtain ⟨φ1, hl1, hs1, S⟩ := S.freezeT (xs := ([scut Ad 0 4, scut Ad 5 7, scut Ad 8 Ad.size] : List ByteArray)) (enc := eStr) (i := 0) rfl (fun _ h => by cases h)
  replace S := S.nk [.own (.slice none 0 0) 3 1 ([] : List Int).length (([] : List Int).flatMap eInt)] [(4, (.slice none 0 0)), (30, (.slice (some ⟨b2, 0, none⟩) 3 3)), (31, iV (([scut Ad 0 4, scut Ad 5 7, scut Ad 8 Ad.size] : List ByteArray).length : Int)), (32, iV 0)] [] rfl (subR rfl)
  obtain ⟨j3, hj3, h⟩ := joinE h
  refine f_join (fun a w' => ∃ x1 : List Int, ∃ v1 : Value, j3 x1 = some r ∧ Sx w [] φ1 [.own v1 3 1 x1.length (x1.flatMap eInt)] [(4, v1)] 66 a w') ?_ ?_
  ·refine wp_block (f_loop (fun (ys1 : List ByteArray) a w' => ∃ i1 : Nat, ∃ x1 : List Int, ∃ v1 : Value, (∃ dn, ([scut Ad 0 4, scut Ad 5 7, scut Ad 8 Ad.size] : List ByteArray) = dn ++ ys1 ∧ dn.length = i1) ∧ swimmer_readDate_l1 j3 ys1 i1 x1 = some r ∧ Sx w [] φ1 [.own v1 3 1 x1.length (x1.flatMap eInt)] [(4, v1), (30, (.slice (some ⟨b2, 0, none⟩) 3 3)), (31, iV (([scut Ad 0 4, scut Ad 5 7, scut Ad 8 Ad.size] : List ByteArray).length : Int)), (32, iV (i1 : Int))] 66 a w') List.length ([scut Ad 0 4, scut Ad 5 7, scut Ad 8 Ad.size] : List ByteArray) ⟨0, ([] : List Int), (.slice none 0 0), ⟨[], rfl, rfl⟩, h, S.nf [true] rfl (subR rfl)⟩ ?_)
   clear S h;rintro ys1 a w6 ⟨i1, x1, v1, ⟨dn, hd1, hi1⟩, h, S⟩
   cases ys1 with
   | nil =>
    rw [swimmer_readDate_l1.eq_1] at h
    refine Fs (Fg (lv S (rn_lss (S.tm rfl) (S.tm rfl)) rfl ?_));clear S;intro a S
    refine Ld ?_
    replace S := S.nk [.own v1 3 1 x1.length (x1.flatMap eInt)] [(4, v1), (30, (.slice (some ⟨b2, 0, none⟩) 3 3)), (31, iV (([scut Ad 0 4, scut Ad 5 7, scut Ad 8 Ad.size] : List ByteArray).length : Int)), (32, iV (i1 : Int)), (33, bV (decide ((i1 : Int) < (([scut Ad 0 4, scut Ad 5 7, scut Ad 8 Ad.size] : List ByteArray).length : Int))))] [true] rfl (subR rfl)
    refine Tn (Fs (wp_cond_false ((S.tm rfl).trans (congrArg Value.bool (rng_nil hd1 hi1))) (wp_exit (then_x (then_x (x_same ?_))))))
    refine Tn ?_
    exact ⟨x1, v1, h, S.nf [true] rfl ⟨rfl, trivial⟩⟩
   | cons y1 ys1 =>
    rw [swimmer_readDate_l1.eq_2] at h
    refine Fs (Fg (lv S (rn_lss (S.tm rfl) (S.tm rfl)) rfl ?_));clear S;intro a S
    refine Ld ?_
    replace S := S.nk [.own v1 3 1 x1.length (x1.flatMap eInt)] [(4, v1), (30, (.slice (some ⟨b2, 0, none⟩) 3 3)), (31, iV (([scut Ad 0 4, scut Ad 5 7, scut Ad 8 Ad.size] : List ByteArray).length : Int)), (32, iV (i1 : Int)), (33, bV (decide ((i1 : Int) < (([scut Ad 0 4, scut Ad 5 7, scut Ad 8 Ad.size] : List ByteArray).length : Int))))] [true] rfl (subR rfl)
    refine Tn (Fs (wp_cond_true ((S.tm rfl).trans (congrArg Value.bool (rng_cons hd1 hi1))) (wp_skip (Tn (Fs (wp_block ?_))))))
    refine Fs (Fg ?_)
    obtain ⟨b3, o1, hm1, hr1⟩ := rn_indexT (a := a) (x := .tmp 30) (y := .tmp 32) (ty := 0) sl_65 (ownV_slcT enc_str hs1) (get_mid hd1 hi1) rfl (S.tm rfl) (S.tm rfl)
    refine lv S (hr1 _) rfl ?_;clear S;intro a S
    clear hr1
    refine lv S (rn_ld Tryz.isAgg9 (off := o1) (o := 0) (S.tm rfl) (hm1.at S.emb) rfl) rfl ?_;clear S;intro a S
    refine lv S (Ra (S.tm rfl)) rfl ?_;clear S;intro a S
    refine Ld (Tn (Fs (Fs (Fg (lv S (Rm (S.tm rfl)) rfl ?_)))));clear S;intro a S
    obtain ⟨r1, hr2, h⟩ := bindE h
    refine l_enter S (fun _ => run_call (vs := [sV y1, sV k_0123456789]) ⟨(S.tm rfl), rfl, trivial⟩ Tryz.call58) (strings_Trim_ok _ y1 k_0123456789 _ hr2) rfl ?_;clear S;intro v2 a w8 hv1 hk6 hn1 S
    subst hv1
    refine lv S (rn_sneq (S.tm rfl) rfl) rfl ?_;clear S;intro a S
    refine Ld (Tn (f_cond (S.tm rfl) (fun hb4 => ?_) (fun hb4 => ?_)))
    ·replace h := iteT h hb4
     refine Fs (Fg (lv S (Ra rfl) rfl ?_));clear S;intro a S
     refine lv S (Ra rfl) rfl ?_;clear S;intro a S
     refine Ld (Tn (wp_ret (then_r (blk_r (then_r (then_r ?_))))))
     refine blk_r (then_r (then_r ?_))
     obtain rfl := Option.some.inj h
     exact f_ret2 S Tryz.results34 rfl rfl rfl
    ·replace h := iteF h hb4
     refine wp_skip (Tn (Fs (Fg (lv S (Rm (S.tm rfl)) rfl ?_))));clear S;intro a S
     obtain ⟨r2, hr3, h⟩ := bindE h
     refine l_enter S (fun _ => run_call (vs := [sV y1]) ⟨(S.tm rfl), trivial⟩ Tryz.call41) (strconv_Atoi_ok _ y1 _ hr3) rfl ?_;clear S;intro v3 a w9 hv2 hk7 hn2 S
     subst hv2
     refine lv S (Rm (S.tm rfl)) rfl ?_;clear S;intro a S
     refine lv S (rn_extract (S.tm rfl) rfl) rfl ?_;clear S;intro a S
     refine lv S (rn_extract (S.tm rfl) rfl) rfl ?_;clear S;intro a S
     refine lv S (Ra (S.tm rfl)) rfl ?_;clear S;intro a S
     refine lv S (Ra (S.tm rfl)) rfl ?_;clear S;intro a S
     refine Ld ?_
     replace S := S.nk [.own v1 3 1 x1.length (x1.flatMap eInt)] [(4, v1), (7, iV r2), (30, (.slice (some ⟨b2, 0, none⟩) 3 3)), (31, iV (([scut Ad 0 4, scut Ad 5 7, scut Ad 8 Ad.size] : List ByteArray).length : Int)), (32, iV (i1 : Int))] [true] rfl (subR rfl)
     refine Tn (Fg (lv S (Rm (S.tm rfl)) rfl ?_));clear S;intro a S
     refine lv S (Rm (S.tm rfl)) rfl ?_;clear S;intro a S
     refine l_buildSlice S Tryz.underlying22 Tryz.sizeOf3 Tryz.zeroValue3 rfl rfl (pv := [(0, iV r2)]) ⟨rfl, (S.tm rfl), trivial⟩ (cs := [iV r2]) (by kernel_rfl) rfl ?_;clear S;intro a w10 b4 hz3 hk8 S
     obtain ⟨hc6, h⟩ := chkE h
     refine l_appendT sl_22 enc_int S (S.tm rfl) (i := 1) rfl (S.tm rfl) (j := 0) rfl (ys := [r2]) rfl rfl rfl rfl (by have := room_lt hc6;omega) rfl ?_;clear S;intro v4 a w11 hk9 S
     refine lv S (Ra (S.tm rfl)) rfl ?_;clear S;intro a S
     refine Ld (blk_n (Tn (Fg (lv S (rn_add (S.tm rfl) rfl) rfl ?_))));clear S;intro a S
     refine lv S (Rm (S.tm rfl)) rfl ?_;clear S;intro a S
     refine Ld (Tn ?_)
     exact ⟨ys1, ⟨i1 + 1, (x1 ++ [r2]), v4, ⟨_, (hd1).trans (List.append_cons _ _ _), by simp [hi1]⟩, h, S.nf [false, true] rfl ⟨rfl, rfl, rfl, (congrArg (fun z => some (Value.int .i64 z)) (rng_next hd1 hi1 (slc_max (ownV_slcT enc_str hs1)))), trivial⟩⟩, Nat.lt_succ_self _⟩
  clear S h;rintro a w7 ⟨x1, v1, h, S⟩;rw [hj3] at h;clear hj3 j3
  refine Tn (Fs ?_)
  obtain ⟨hc7, h⟩ := chkE h
  obtain ⟨hc8, h⟩ := chkE h
  obtain ⟨hc9, h⟩ := chkE h
  obtain ⟨r3, hr7, h⟩ := bindE h
  refine d_region [] ([]) Tryz.mixed S rfl (by kernel_rfl) ?_;clear S;intro w13 hk11 hsel S
  refine d_quiet 0 S hsel rfl rfl rfl (by kernel_rfl) (by kernel_rfl) rfl (fun _ hw => (Rm (S.tm rfl))) ?_;clear S;intro a S
  obtain ⟨b8, hg4, hr8⟩ := rn_indexS (a := a) (x := .tmp 50) (y := .const (iV 0)) (ty := 0) sl_22 enc_int S (i := 0) rfl (inB_get hc7).1 (inB_get hc7).2 (S.tm rfl) rfl
  refine d_quiet 1 S hsel rfl rfl rfl (by kernel_rfl) (by kernel_rfl) rfl (fun _ hw => (hr8 _)) ?_;clear S;intro a S
  clear hr8
  refine d_quiet 2 S hsel rfl rfl rfl (by kernel_rfl) (by kernel_rfl) rfl (fun _ hw => (rn_ld Tryz.isAgg3 (off := ((0 : Int).toNat) * 1) (o := 0) (S.tm rfl) ((own_mem enc_int S (i := 0) rfl hg4 (inB_get hc7).1 (ne_nil (e' := .own v1 3 1 x1.length (x1.flatMap eInt)))).kept hw) rfl)) ?_;clear S;intro a S
  refine d_quiet 3 S hsel rfl rfl rfl (by kernel_rfl) (by kernel_rfl) rfl (fun _ hw => (Rm (S.tm rfl))) ?_;clear S;intro a S
  obtain ⟨b9, hg5, hr9⟩ := rn_indexS (a := a) (x := .tmp 53) (y := .const (iV 1)) (ty := 0) sl_22 enc_int S (i := 0) rfl (inB_get hc8).1 (inB_get hc8).2 (S.tm rfl) rfl
  refine d_quiet 4 S hsel rfl rfl rfl (by kernel_rfl) (by kernel_rfl) rfl (fun _ hw => (hr9 _)) ?_;clear S;intro a S
  clear hr9
  refine d_quiet 5 S hsel rfl rfl rfl (by kernel_rfl) (by kernel_rfl) rfl (fun _ hw => (rn_ld Tryz.isAgg3 (off := ((1 : Int).toNat) * 1) (o := 0) (S.tm rfl) ((own_mem enc_int S (i := 0) rfl hg5 (inB_get hc8).1 (ne_nil (e' := .own v1 3 1 x1.length (x1.flatMap eInt)))).kept hw) rfl)) ?_;clear S;intro a S
  refine d_quiet 6 S hsel rfl rfl rfl (by kernel_rfl) (by kernel_rfl) rfl (fun _ hw => (Rm (S.tm rfl))) ?_;clear S;intro a S
  obtain ⟨b10, hg6, hr10⟩ := rn_indexS (a := a) (x := .tmp 56) (y := .const (iV 2)) (ty := 0) sl_22 enc_int S (i := 0) rfl (inB_get hc9).1 (inB_get hc9).2 (S.tm rfl) rfl
  refine d_quiet 7 S hsel rfl rfl rfl (by kernel_rfl) (by kernel_rfl) rfl (fun _ hw => (hr10 _)) ?_;clear S;intro a S
  clear hr10
  refine d_quiet 8 S hsel rfl rfl rfl (by kernel_rfl) (by kernel_rfl) rfl (fun _ hw => (rn_ld Tryz.isAgg3 (off := ((2 : Int).toNat) * 1) (o := 0) (S.tm rfl) ((own_mem enc_int S (i := 0) rfl hg6 (inB_get hc9).1 (ne_nil (e' := .own v1 3 1 x1.length (x1.flatMap eInt)))).kept hw) rfl)) ?_;clear S;intro a S
  refine d_quiet 9 S hsel rfl rfl rfl (by kernel_rfl) (by kernel_rfl) rfl (fun _ hw => (rn_bld bt_53 (pv := [(0, iV (nth x1 0)), (1, iV (nth x1 1)), (2, iV (nth x1 2))]) ⟨rfl, (S.tm rfl), rfl, (S.tm rfl), rfl, (S.tm rfl), trivial⟩ (cs := [iV (nth x1 0), iV (nth x1 1), iV (nth x1 2)]) (by kernel_rfl))) ?_;clear S;intro a S
  refine d_loud1 10 (by kernel_rfl) rfl (l_enter S (fun _ => run_call (vs := [.agg (GDate.enc (GDate.mk (nth x1 0) (nth x1 1) (nth x1 2))).toArray]) ⟨(S.tm rfl), trivial⟩ Tryz.call44) (swimmer_DayOf_ok _ (GDate.mk (nth x1 0) (nth x1 1) (nth x1 2)) _ hr7) rfl ?_);clear S;intro v6 a w14 hv4 hk12 hn4 S
  subst hv4
  refine Ld (d_next hk12 (d_rest [11, 12, 13, 14, 15] hsel (by kernel_rfl) rfl ?_))
  clear hsel
  refine s_lv S rfl (Rm (S.tm rfl)) rfl ?_;clear S;intro a S
  refine s_lv S rfl (rn_extract (S.tm rfl) rfl) rfl ?_;clear S;intro a S
  refine s_lv S rfl (rn_extract (S.tm rfl) rfl) rfl ?_;clear S;intro a S
  refine s_lv S rfl (Ra (S.tm rfl)) rfl ?_;clear S;intro a S
  refine s_lv S rfl (Ra (S.tm rfl)) rfl ?_;clear S;intro a S
  refine s_done ?_
  replace S := S.nk [] [(9, iV r3.1), (10, iV r3.2)] [false] rfl (subR rfl)
  refine Tn (Fs (Fg (lv S (Rm (S.tm rfl)) rfl ?_)));clear S;intro a S
  refine lv S (Rm (S.tm rfl)) rfl ?_;clear S;intro a S
  refine lv S (rn_eql (S.tm rfl) rfl) rfl ?_;clear S;intro a S
  refine lv S (Ra (S.tm rfl)) rfl ?_;clear S;intro a S
  refine lv S (Ra (S.tm rfl)) rfl ?_;clear S;intro a S
  refine Ld (Tn (wp_ret ?_))
  obtain rfl := Option.some.inj h
  exact f_ret2 S Tryz.results34 rfl rfl rfl
theorem swimmer_Read_c1_ok (w : World) (X : List Nat) (At : ByteArray) (Ab : Nat) (Aa : Value) (Ag : List GSwimmer) (Bq : (LEnt.own Aa 38 3 Ag.length (Ag.flatMap GSwimmer.enc)).holds w) (Br : (LEnt.blk Ab [Aa] 26).holds w) (hg_maxlen : GlobI (view w X) 0) (hXn : X.Nodup) (hXe : X = fps [.blk Ab [Aa] 26, .own Aa 38 3 Ag.length (Ag.flatMap GSwimmer.enc)]) (r : Bool × (List GSwimmer)) (h : swimmer_Read_c1 At Ag = some r) :
    Calls Tryz.prog 32 [sV At, .pointer (some ⟨Ab, 0, none⟩)].toArray w (Ret w X fun _ v w' => ∃ y1 : Value, Grp w w' X [.blk Ab [y1] 26, .own y1 38 3 r.2.length (r.2.flatMap GSwimmer.enc)] ∧ v = bV r.1) := by
 refine f_enter X [.blk Ab [Aa] 26, .own Aa 38 3 Ag.length (Ag.flatMap GSwimmer.enc)] Tryz.func32 rfl Tryz.ntmps32 rfl (fun e he => by simp only [List.mem_cons, List.not_mem_nil, or_false] at he;rcases he with rfl | rfl <;> assumption) (by rw [← hXe];exact hXn) (fun b hb => by rw [hXe];exact hb) fun a S => ?_
 unfold swimmer_Read_c1 at h
 replace S := S.nk [.blk Ab [Aa] 26, .own Aa 38 3 Ag.length (Ag.flatMap GSwimmer.enc)] [(0, sV At), (1, .pointer (some ⟨Ab, 0, none⟩))] [true, true] rfl (subR rfl)
 refine Fs (Fg (lv S (Ra rfl) rfl ?_));clear S;intro a S
 refine Ld (Tn (Fs (Fg (lv S (Rm (S.tm rfl)) rfl ?_))));clear S;intro a S
 obtain ⟨r1, hr1, h⟩ := bindE h
 have hz1 := S.keep.size
 refine l_enter S (fun _ => run_call (vs := [sV At]) ⟨(S.tm rfl), trivial⟩ Tryz.call33) (words_Split_ok _ At (hg_maxlen.mono (S.le_arg nil_sub)) _ hr1) rfl ?_;clear S;intro v1 a w1 hv1 hk1 hn1 S
 obtain ⟨u1, rfl, ho1⟩ := hv1
 obtain ⟨φ1, hl1, hm1, S⟩ := S.see' hn1 hz1
 have hs1 := ho1.mono hm1
 refine lv S (Rm (S.tm rfl)) rfl ?_;clear S;intro a S
 refine lv S (rn_extract (S.tm rfl) rfl) rfl ?_;clear S;intro a S
 refine lv S (rn_extract (S.tm rfl) rfl) rfl ?_;clear S;intro a S
 refine lv S (Ra (S.tm rfl)) rfl ?_;clear S;intro a S
 refine lv S (Ra (S.tm rfl)) rfl ?_;clear S;intro a S
 refine Ld (Tn (Fs (Fs (Fg (lv S (Rm (S.tm rfl)) rfl ?_)))));clear S;intro a S
 refine lv S (rn_not (S.tm rfl)) rfl ?_;clear S;intro a S
 refine lv S (Rm (S.tm rfl)) rfl ?_;clear S;intro a S
 refine f_cutm 4 (fun a w' => Keep [] w1 w' ∧ Sx w X φ1 [.blk Ab [Aa] 26, .own Aa 38 3 Ag.length (Ag.flatMap GSwimmer.enc)] [(1, .pointer (some ⟨Ab, 0, none⟩)), (4, u1), (20, bV ((!r1.2) || (!decide ((r1.1.length : Int) = 3))))] 55 a w') ?_ ?_
 ·rcases Bool.eq_false_or_eq_true (!r1.2) with hb1 | hb1
  ·iterate 3 (refine l_skip S rfl rfl rfl (neq_t hb1) rfl ?_ rfl;clear S;intro a S)
   refine lv S (rn_or_t (!decide ((r1.1.length : Int) = 3)) hb1 (S.tm rfl) rfl) rfl ?_;clear S;intro a S
   refine Ld (Tn ?_)
   exact ⟨Keep.refl _ _, S.nf [true, true] rfl (subR rfl)⟩
  ·refine l_want S rfl rfl rfl hb1 (lv S (Rm (S.tm rfl)) rfl ?_);clear S;intro a S
   refine l_want S rfl rfl rfl hb1 (lv S (rn_lenT sl_65 (S.tm rfl) (slc_len (ownV_slcT enc_str hs1))) rfl ?_);clear S;intro a S
   refine l_want S rfl rfl rfl hb1 (lv S (rn_neq (S.tm rfl) rfl) rfl ?_);clear S;intro a S
   refine lv S (rn_or_f hb1 (S.tm rfl) (S.tm rfl)) rfl ?_;clear S;intro a S
   refine Ld (Tn ?_)
   exact ⟨Keep.refl _ _, S.nf [true, true] rfl (subR rfl)⟩
 clear S;rintro a w2 ⟨hk2, S⟩
 refine Ld (Tn (f_cond (S.tm rfl) (fun hb2 => ?_) (fun hb2 => ?_)))
 ·replace h := iteT h hb2
  refine Fs (Fg (lv S (Ra rfl) rfl ?_));clear S;intro a S
  refine Ld (Tn (wp_ret (then_r ?_)))
  obtain rfl := Option.some.inj h
  exact f_ret S Tryz.results32 rfl ⟨Aa, S.grp [0, 1] [] rfl rfl rfl, rfl⟩
 ·replace h := iteF h hb2
  refine wp_skip (Tn (Fs (Fg (lv S (Rm (S.tm rfl)) rfl ?_))));clear S;intro a S
  obtain ⟨hc1, h⟩ := chkE h
  obtain ⟨b1, o1, hm2, hr2⟩ := rn_indexT (a := a) (x := .tmp 22) (y := .const (iV 2)) (ty := 0) sl_65 (ownV_slcT enc_str hs1) (inB_get hc1).1 (inB_get hc1).2 (S.tm rfl) rfl
  refine lv S (hr2 _) rfl ?_;clear S;intro a S
  clear hr2
  refine lv S (rn_ld Tryz.isAgg9 (off := o1) (o := 0) (S.tm rfl) (hm2.at S.emb) rfl) rfl ?_;clear S;intro a S
  obtain ⟨r2, hr3, h⟩ := bindE h
  refine l_enter S (fun _ => run_call (vs := [sV (nth r1.1 2)]) ⟨(S.tm rfl), trivial⟩ Tryz.call34) (swimmer_readDate_ok _ (nth r1.1 2) _ hr3) rfl ?_;clear S;intro v2 a w3 hv2 hk3 hn2 S
  subst hv2
  refine lv S (Rm (S.tm rfl)) rfl ?_;clear S;intro a S
  refine lv S (rn_extract (S.tm rfl) rfl) rfl ?_;clear S;intro a S
  refine lv S (rn_extract (S.tm rfl) rfl) rfl ?_;clear S;intro a S
  refine lv S (Ra (S.tm rfl)) rfl ?_;clear S;intro a S
  refine lv S (Ra (S.tm rfl)) rfl ?_;clear S;intro a S
  refine Ld (Tn (Fs (Fg (lv S (Rm (S.tm rfl)) rfl ?_))));clear S;intro a S
  obtain ⟨hc2, h⟩ := chkE h
  obtain ⟨b2, o2, hm3, hr4⟩ := rn_indexT (a := a) (x := .tmp 28) (y := .const (iV 0)) (ty := 0) sl_65 (ownV_slcT enc_str hs1) (inB_get hc2).1 (inB_get hc2).2 (S.tm rfl) rfl
  refine lv S (hr4 _) rfl ?_;clear S;intro a S
  clear hr4
  refine lv S (rn_ld Tryz.isAgg9 (off := o2) (o := 0) (S.tm rfl) (hm3.at S.emb) rfl) rfl ?_;clear S;intro a S
  refine lv S (Rm (S.tm rfl)) rfl ?_;clear S;intro a S
  refine lv S (rn_bld bt_38 (pv := [(0, sV (nth r1.1 0)), (1, iV 1), (2, iV r2.1)]) ⟨rfl, (S.tm rfl), rfl, rfl, rfl, (S.tm rfl), trivial⟩ (cs := [sV (nth r1.1 0), iV 1, iV r2.1]) (by kernel_rfl)) rfl ?_;clear S;intro a S
  refine l_alloc S Tryz.zeroValue38 (cs := [sV k_empty, iV 0, iV 0]) rfl rfl ?_;clear S;intro a w4 b3 hz2 hk4 S
  refine l_store S (S.tm rfl) (S.tm rfl) (i := 0) (off := 0) rfl Tryz.sizeOf38 (vs := [sV (nth r1.1 0), iV 1, iV r2.1]) rfl rfl rfl rfl ?_;clear S;intro w5 hk5 S
  refine Ld ?_
  replace S := S.nk [.blk b3 [sV (nth r1.1 0), iV 1, iV r2.1] 38, .blk Ab [Aa] 26, .own Aa 38 3 Ag.length (Ag.flatMap GSwimmer.enc)] [(1, .pointer (some ⟨Ab, 0, none⟩)), (4, u1), (7, bV r2.2), (8, .pointer (some ⟨b3, 0, none⟩))] [true, true, true] rfl (subR rfl)
  refine Tn (Fs (Fs (Fg (lv S (Rm (S.tm rfl)) rfl ?_))));clear S;intro a S
  obtain ⟨hc3, h⟩ := chkE h
  obtain ⟨b4, o3, hm4, hr5⟩ := rn_indexT (a := a) (x := .tmp 33) (y := .const (iV 1)) (ty := 0) sl_65 (ownV_slcT enc_str hs1) (inB_get hc3).1 (inB_get hc3).2 (S.tm rfl) rfl
  refine lv S (hr5 _) rfl ?_;clear S;intro a S
  clear hr5
  refine lv S (rn_ld Tryz.isAgg9 (off := o3) (o := 0) (S.tm rfl) (hm4.at S.emb) rfl) rfl ?_;clear S;intro a S
  refine lv S (rn_seql (S.tm rfl) rfl) rfl ?_;clear S;intro a S
  refine Ld (Tn ?_)
  obtain ⟨j1, hj1, h⟩ := joinE h
  refine f_join (fun a w' => ∃ x1 : Int, j1 x1 = some r ∧ Sx w X φ1 [.blk b3 [sV (nth r1.1 0), iV x1, iV r2.1] 38, .blk Ab [Aa] 26, .own Aa 38 3 Ag.length (Ag.flatMap GSwimmer.enc)] [(1, .pointer (some ⟨Ab, 0, none⟩)), (4, u1), (7, bV r2.2), (8, .pointer (some ⟨b3, 0, none⟩))] 55 a w') ?_ ?_
  ·refine f_cond (S.tm rfl) (fun hb3 => ?_) (fun hb3 => ?_)
   ·replace h := iteT h hb3
    refine Fg (lv S (rn_fld fa_38_1 (S.tm rfl)) rfl ?_);clear S;intro a S
    refine l_store S (S.tm rfl) rfl (i := 0) (off := 1) rfl Tryz.sizeOf3 (vs := [iV 2]) rfl rfl rfl rfl ?_;clear S;intro w7 hk6 S
    refine Ld (Tn ?_)
    exact ⟨2, h, S.nf [true, true, true] rfl (subR rfl)⟩
   ·replace h := iteF h hb3
    refine wp_skip (Tn ?_)
    exact ⟨1, h, S.nf [true, true, true] rfl (subR rfl)⟩
  clear S h;rintro a w6 ⟨x1, h, S⟩;rw [hj1] at h;clear hj1 j1
  refine Tn (Fs (Fg (lv S (rn_load Tryz.isAgg26 (S.tm rfl) (S.cell (i := 1) rfl rfl)) rfl ?_)));clear S;intro a S
  refine lv S (rn_ldA Tryz.isAgg38 Tryz.sizeOf38 (off := 0) (o := 0) (part := [sV (nth r1.1 0), iV x1, iV r2.1]) rfl rfl (S.tm rfl) (S.cellsAt (i := 0) rfl)) rfl ?_;clear S;intro a S
  refine l_buildSlice S Tryz.underlying26 Tryz.sizeOf38 Tryz.zeroValue38 rfl rfl (pv := [(0, .agg #[sV (nth r1.1 0), iV x1, iV r2.1])]) ⟨rfl, (S.tm rfl), trivial⟩ (cs := [sV (nth r1.1 0), iV x1, iV r2.1]) (by kernel_rfl) rfl ?_;clear S;intro a w8 b5 hz3 hk7 S
  obtain ⟨hc4, h⟩ := chkE h
  refine l_appendT sl_26 GSwimmer.enc_ok S (S.tm rfl) (i := 3) rfl (S.tm rfl) (j := 0) rfl (ys := [(GSwimmer.mk (nth r1.1 0) x1 r2.1)]) rfl rfl rfl rfl (by have := room_lt hc4;omega) rfl ?_;clear S;intro v3 a w9 hk8 S
  refine l_store S (S.tm rfl) (S.tm rfl) (i := 2) (off := 0) rfl Tryz.sizeOf26 (vs := [v3]) (SlcLen.cells (own_len (S.own_at (i := 3) rfl))) rfl rfl (all1 (SlcLen.one (own_len (S.own_at (i := 3) rfl))) rfl) ?_;clear S;intro w10 hk9 S
  refine Ld (Tn (Fs (Fg (lv S (Rm (S.tm rfl)) rfl ?_))));clear S;intro a S
  refine lv S (Rm (S.tm rfl)) rfl ?_;clear S;intro a S
  obtain ⟨j2, hj2, h⟩ := joinE h
  refine f_cutm 11 (fun a w' => ∃ c1, j2 c1 = some r ∧ Keep [] w10 w' ∧ Sx w X φ1 [.blk b5 [sV (nth r1.1 0), iV x1, iV r2.1] 38, .blk b3 [sV (nth r1.1 0), iV x1, iV r2.1] 38, .blk Ab [v3] 26, .own v3 38 3 (Ag ++ [(GSwimmer.mk (nth r1.1 0) x1 r2.1)]).length ((Ag ++ [(GSwimmer.mk (nth r1.1 0) x1 r2.1)]).flatMap GSwimmer.enc)] [(54, bV c1)] 55 a w') ?_ ?_
  ·rcases Bool.eq_false_or_eq_true r2.2 with hb4 | hb4
   ·replace h := iteT h hb4
    refine l_want S rfl rfl rfl hb4 (lv S (Rm (S.tm rfl)) rfl ?_);clear S;intro a S
    refine l_want S rfl rfl rfl hb4 ?_
    obtain ⟨hc5, h⟩ := chkE h
    obtain ⟨b6, o4, hm5, hr6⟩ := rn_indexT (a := a) (x := .tmp 44) (y := .const (iV 1)) (ty := 0) sl_65 (ownV_slcT enc_str hs1) (inB_get hc5).1 (inB_get hc5).2 (S.tm rfl) rfl
    refine lv S (hr6 _) rfl ?_;clear S;intro a S
    clear hr6
    refine l_want S rfl rfl rfl hb4 (lv S (rn_ld Tryz.isAgg9 (off := o4) (o := 0) (S.tm rfl) (hm5.at S.emb) rfl) rfl ?_);clear S;intro a S
    refine l_want S rfl rfl rfl hb4 (lv S (rn_seql (S.tm rfl) rfl) rfl ?_);clear S;intro a S
    refine l_want S rfl rfl rfl hb4 (lv S (Rm (S.tm rfl)) rfl ?_);clear S;intro a S
    obtain ⟨j3, hj3, h⟩ := joinE h
    refine f_cutm 5 (fun a w' => ∃ c2, j3 c2 = some r ∧ Keep [] w10 w' ∧ Sx w X φ1 [.blk b5 [sV (nth r1.1 0), iV x1, iV r2.1] 38, .blk b3 [sV (nth r1.1 0), iV x1, iV r2.1] 38, .blk Ab [v3] 26, .own v3 38 3 (Ag ++ [(GSwimmer.mk (nth r1.1 0) x1 r2.1)]).length ((Ag ++ [(GSwimmer.mk (nth r1.1 0) x1 r2.1)]).flatMap GSwimmer.enc)] [(43, bV r2.2), (53, bV c2)] 55 a w') ?_ ?_
    ·rcases Bool.eq_false_or_eq_true (decide ((nth r1.1 1) = k_f)) with hb5 | hb5
     ·replace h := iteT h hb5
      iterate 4 (refine l_skip S rfl rfl rfl (neq_t hb5) rfl ?_ rfl;clear S;intro a S)
      refine l_want S rfl rfl rfl hb4 (lv S (rn_or_t true hb5 (S.tm rfl) rfl) rfl ?_);clear S;intro a S
      refine Ld (Tn ?_)
      exact ⟨_, h, Keep.refl _ _, S.nf [true, true, true, true] rfl (subR rfl)⟩
     ·replace h := iteF h hb5
      refine l_want S rfl rfl rfl hb5 (lv S (Rm (S.tm rfl)) rfl ?_);clear S;intro a S
      refine l_want S rfl rfl rfl hb5 ?_
      obtain ⟨hc6, h⟩ := chkE h
      obtain ⟨b7, o5, hm6, hr7⟩ := rn_indexT (a := a) (x := .tmp 49) (y := .const (iV 1)) (ty := 0) sl_65 (ownV_slcT enc_str hs1) (inB_get hc6).1 (inB_get hc6).2 (S.tm rfl) rfl
      refine lv S (hr7 _) rfl ?_;clear S;intro a S
      clear hr7
      refine l_want S rfl rfl rfl hb5 (lv S (rn_ld Tryz.isAgg9 (off := o5) (o := 0) (S.tm rfl) (hm6.at S.emb) rfl) rfl ?_);clear S;intro a S
      refine l_want S rfl rfl rfl hb5 (lv S (rn_seql (S.tm rfl) rfl) rfl ?_);clear S;intro a S
      refine l_want S rfl rfl rfl hb4 (lv S (rn_or_f hb5 (S.tm rfl) (S.tm rfl)) rfl ?_);clear S;intro a S
      refine Ld (Tn ?_)
      exact ⟨_, h, Keep.refl _ _, S.nf [true, true, true, true] rfl (subR rfl)⟩
    clear S h;rintro a w12 ⟨c2, h, hk10, S⟩;rw [hj3] at h;clear hj3 j3
    refine lv S (rn_and_t hb4 (S.tm rfl) (S.tm rfl)) rfl ?_;clear S;intro a S
    refine Ld (Tn ?_)
    exact ⟨_, h, hk10, S.nf [true, true, true, true] rfl ⟨rfl, trivial⟩⟩
   ·replace h := iteF h hb4
    iterate 5 (refine l_skip S rfl rfl rfl (neq_f hb4) rfl ?_ rfl;clear S;intro a S)
    iterate 4 (refine l_skipU S rfl rfl rfl rfl ?_;clear S;intro a S)
    refine l_skip S rfl rfl rfl (neq_f hb4) rfl ?_ rfl;clear S;intro a S
    refine lv S (rn_and_f true hb4 (S.tm rfl) rfl) rfl ?_;clear S;intro a S
    refine Ld (Tn ?_)
    exact ⟨_, h, Keep.refl _ _, S.nf [true, true, true, true] rfl ⟨rfl, trivial⟩⟩
  clear S h;rintro a w11 ⟨c1, h, hk11, S⟩;rw [hj2] at h;clear hj2 j2
  refine lv S (Ra (S.tm rfl)) rfl ?_;clear S;intro a S
  refine Ld (Tn (wp_ret ?_))
  obtain rfl := Option.some.inj h
  exact f_ret S Tryz.results32 rfl ⟨v3, S.grp [2, 3] [0, 1] rfl rfl rfl, rfl⟩
theorem words_Lines_swimmer_Read_c1_ok (w : World) (X : List Nat) (Au : ByteArray) (Ac : Nat) (Ai : Value) (Ak : List GSwimmer) (Bo : (LEnt.own Ai 38 3 Ak.length (Ak.flatMap GSwimmer.enc)).holds w) (Bp : (LEnt.blk Ac [Ai] 26).holds w) (hg_maxlen : GlobI (view w X) 0) (hXn : X.Nodup) (hXe : X = fps [.blk Ac [Ai] 26, .own Ai 38 3 Ak.length (Ak.flatMap GSwimmer.enc)]) (r : Int × Bool × (List GSwimmer)) (h : words_Lines_swimmer_Read_c1 Au Ak = some r) :
    Calls Tryz.prog 31 [sV Au, .func (.func 32) #[] #[.pointer (some ⟨Ac, 0, none⟩)]].toArray w (Ret w X fun _ v w' => ∃ y1 : Value, Grp w w' X [.blk Ac [y1] 26, .own y1 38 3 r.2.2.length (r.2.2.flatMap GSwimmer.enc)] ∧ v = .tuple #[iV r.1, bV r.2.1]) := by
 refine f_enter X [.blk Ac [Ai] 26, .own Ai 38 3 Ak.length (Ak.flatMap GSwimmer.enc)] Tryz.func31 rfl Tryz.ntmps31 rfl (fun e he => by simp only [List.mem_cons, List.not_mem_nil, or_false] at he;rcases he with rfl | rfl <;> assumption) (by rw [← hXe];exact hXn) (fun b hb => by rw [hXe];exact hb) fun a S => ?_
 unfold words_Lines_swimmer_Read_c1 at h
 replace S := S.nk [.blk Ac [Ai] 26, .own Ai 38 3 Ak.length (Ak.flatMap GSwimmer.enc)] [(0, sV Au), (1, .func (.func 32) #[] #[.pointer (some ⟨Ac, 0, none⟩)])] [true, true] rfl (subR rfl)
 refine Fs (Fg (lv S (Ra rfl) rfl ?_));clear S;intro a S
 refine lv S (Ra rfl) rfl ?_;clear S;intro a S
 refine Ld (Tn (Fs (Fs (Fg (lv S (Ra rfl) rfl ?_)))));clear S;intro a S
 refine Ld (Tn ?_)
 replace S := S.nk [.blk Ac [Ai] 26, .own Ai 38 3 Ak.length (Ak.flatMap GSwimmer.enc)] [(0, sV Au), (1, .func (.func 32) #[] #[.pointer (some ⟨Ac, 0, none⟩)]), (6, iV 0)] [true, true] rfl (subR rfl)
 obtain ⟨j1, hj1, h⟩ := joinE h
 refine f_join (fun a w' => ∃ x1 : List GSwimmer, ∃ v1 : Value, j1 x1 = some r ∧ Sx w X nov [.blk Ac [v1] 26, .own v1 38 3 x1.length (x1.flatMap GSwimmer.enc)] [] 30 a w') ?_ ?_
 ·refine wp_block (f_loop (fun (m1 : Nat) a w' => ∃ x1 : List GSwimmer, ∃ x2 : ByteArray, ∃ x3 : Int, ∃ v1 : Value, words_Lines_swimmer_Read_c1_l1 j1 m1 x1 x2 x3 = some r ∧ Sx w X nov [.blk Ac [v1] 26, .own v1 38 3 x1.length (x1.flatMap GSwimmer.enc)] [(0, sV x2), (1, .func (.func 32) #[] #[.pointer (some ⟨Ac, 0, none⟩)]), (6, iV x3)] 30 a w') id 4611686018427387904 ⟨Ak, Au, 0, Ai, h, S.nf [true, true] rfl (subR rfl)⟩ ?_)
  clear S h;rintro m1 a w1 ⟨x1, x2, x3, v1, h, S⟩
  cases m1 with
  | zero => rw [words_Lines_swimmer_Read_c1_l1.eq_1] at h;cases h
  | succ m1 =>
   rw [words_Lines_swimmer_Read_c1_l1.eq_2] at h
   refine Fs (Fs (Fg (lv S (Rm (S.tm rfl)) rfl ?_)));clear S;intro a S
   refine lv S (rn_sneq (S.tm rfl) rfl) rfl ?_;clear S;intro a S
   refine Ld (Tn (f_cond (S.tm rfl) (fun hb1 => ?_) (fun hb1 => ?_)))
   ·replace h := iteT h hb1
    refine wp_skip (Tn (Fs (wp_block (Fs (Fg (lv S (Rm (S.tm rfl)) rfl ?_))))));clear S;intro a S
    obtain ⟨r1, hr1, h⟩ := bindE h
    refine l_enter S (fun _ => run_call (vs := [sV x2, sV k__0a]) ⟨(S.tm rfl), rfl, trivial⟩ Tryz.call57) (strings_Cut_ok _ x2 k__0a (hg_maxlen.mono (S.le_arg nil_sub)) _ hr1) rfl ?_;clear S;intro v2 a w3 hv1 hk1 hn1 S
    subst hv1
    refine lv S (Rm (S.tm rfl)) rfl ?_;clear S;intro a S
    iterate 3 (refine lv S (rn_extract (S.tm rfl) rfl) rfl ?_;clear S;intro a S)
    iterate 3 (refine lv S (Ra (S.tm rfl)) rfl ?_;clear S;intro a S)
    refine Ld (Tn (Fs (Fs (Fg (lv S (Rm (S.tm rfl)) rfl ?_)))));clear S;intro a S
    refine lv S (rn_not (S.tm rfl)) rfl ?_;clear S;intro a S
    refine lv S (Rm (S.tm rfl)) rfl ?_;clear S;intro a S
    obtain ⟨j2, hj2, h⟩ := joinE h
    refine f_cutm 5 (fun a w' => ∃ x4 : List GSwimmer, ∃ x5 : Bool, ∃ v3 : Value, j2 x4 x5 = some r ∧ Sx w X nov [.blk Ac [v3] 26, .own v3 38 3 x4.length (x4.flatMap GSwimmer.enc)] [(1, .func (.func 32) #[] #[.pointer (some ⟨Ac, 0, none⟩)]), (6, iV x3), (8, sV r1.2.1), (27, bV x5)] 30 a w') ?_ ?_
    ·rcases Bool.eq_false_or_eq_true (!r1.2.2) with hb2 | hb2
     ·replace h := iteT h hb2
      iterate 4 (refine l_skip S rfl rfl rfl (neq_t hb2) rfl ?_ rfl;clear S;intro a S)
      refine lv S (rn_pick_b hb2 (S.tm rfl) rfl) rfl ?_;clear S;intro a S
      refine Ld (Tn ?_)
      exact ⟨x1, true, v1, h, S.nf [true, true] rfl (subR rfl)⟩
     ·replace h := iteF h hb2
      refine l_want S rfl rfl rfl hb2 (lv S (Rm (S.tm rfl)) rfl ?_);clear S;intro a S
      refine l_want S rfl rfl rfl hb2 (lv S (Rm (S.tm rfl)) rfl ?_);clear S;intro a S
      refine l_want S rfl rfl rfl hb2 ?_
      obtain ⟨r2, hr2, h⟩ := bindE h
      refine l_enterG [0, 1] [] (Ls := [.blk Ac [v1] 26, .own v1 38 3 x1.length (x1.flatMap GSwimmer.enc)]) (Lr := []) (Y := [Ac] ++ v1.ownBlock.toList) S rfl rfl rfl (by simp [fps_cons, fps_nil, LEnt.fp]) (fun _ => run_callV (cap := [.pointer (some ⟨Ac, 0, none⟩)]) (S.tm rfl) (vs := [sV r1.1]) ⟨(S.tm rfl), trivial⟩ Tryz.call32) (swimmer_Read_c1_ok _ ([Ac] ++ v1.ownBlock.toList) r1.1 Ac v1 x1 (S.holds _ (List.mem_of_getElem? (i := 1) rfl)) (S.holds _ (List.mem_of_getElem? (i := 0) rfl)) (hg_maxlen.mono (S.le_arg (app_sub (fp_sub (i := 0) (e := .blk Ac [v1] 26) rfl) (fp_sub (i := 1) (e := .own v1 38 3 x1.length (x1.flatMap GSwimmer.enc)) rfl)))) (S.ndg [0, 1] [] rfl rfl rfl (by simp [fps_cons, fps_nil, LEnt.fp])) (by simp [fps_cons, fps_nil, LEnt.fp]) _ hr2) rfl ?_;clear S;intro v4 a w5 hv2 hk2 hn2 S
      obtain ⟨v5, hg1, hv2⟩ := hv2;replace S := S _ hg1;clear hg1
      subst hv2
      refine l_want S rfl rfl rfl hb2 (lv S (rn_not (S.tm rfl)) rfl ?_);clear S;intro a S
      refine lv S (rn_pick_c hb2 (S.tm rfl) (S.tm rfl)) rfl ?_;clear S;intro a S
      refine Ld (Tn ?_)
      exact ⟨r2.2, !r2.1, v5, h, S.nf [true, true] rfl (subR rfl)⟩
    clear S h;rintro a w4 ⟨x4, x5, v3, h, S⟩;rw [hj2] at h;clear hj2 j2
    refine Ld (Tn (f_cond (S.tm rfl) (fun hb3 => ?_) (fun hb3 => ?_)))
    ·replace h := iteT h hb3
     refine Fs (Fg (lv S (Rm (S.tm rfl)) rfl ?_));clear S;intro a S
     refine lv S (Ra (S.tm rfl)) rfl ?_;clear S;intro a S
     refine lv S (Ra rfl) rfl ?_;clear S;intro a S
     refine Ld (Tn (wp_ret (then_r (blk_r (then_r (then_r ?_))))))
     refine blk_r (then_r (then_r ?_))
     obtain rfl := Option.some.inj h
     exact f_ret2 S Tryz.results31 rfl rfl ⟨v3, S.grp [0, 1] [] rfl rfl rfl, rfl⟩
    ·replace h := iteF h hb3
     refine wp_skip (Tn (Fg (lv S (Rm (S.tm rfl)) rfl ?_)));clear S;intro a S
     refine lv S (Ra (S.tm rfl)) rfl ?_;clear S;intro a S
     refine Ld (blk_n (Tn (Fg (lv S (Rm (S.tm rfl)) rfl ?_))));clear S;intro a S
     refine lv S (rn_add (S.tm rfl) rfl) rfl ?_;clear S;intro a S
     refine lv S (Ra (S.tm rfl)) rfl ?_;clear S;intro a S
     refine Ld (Tn ?_)
     exact ⟨m1, ⟨x4, r1.2.1, W (x3 + 1), v3, h, S.nf [true, true] rfl ⟨rfl, rfl, rfl, trivial⟩⟩, Nat.lt_succ_self _⟩
   ·replace h := iteF h hb1
    refine wp_exit (then_x (then_x (x_same (Tn ?_))))
    exact ⟨x1, v1, h, S.nf [true, true] rfl trivial⟩
 clear S h;rintro a w2 ⟨x1, v1, h, S⟩;rw [hj1] at h;clear hj1 j1
 refine Tn (Fs (Fg (lv S (Ra rfl) rfl ?_)));clear S;intro a S
 refine lv S (Ra rfl) rfl ?_;clear S;intro a S
 refine Ld (Tn (wp_ret ?_))
 obtain rfl := Option.some.inj h
 exact f_ret2 S Tryz.results31 rfl rfl ⟨v1, S.grp [0, 1] [] rfl rfl rfl, rfl⟩
theorem slices_Clip_Swimmer_ok (w : World) (ψ : View) (hψ : View.le ψ (view w [])) (Ba : Value) (Ad : List GSwimmer) (Be : Slc ψ 3 Ba (Ad.map GSwimmer.enc)) (r : (List GSwimmer)) (h : slices_Clip_Swimmer Ad = some r) :
    Calls Tryz.prog 35 [Ba].toArray w (Ret w [] fun τ v _ => Slc (join ψ τ) 3 v (r.map GSwimmer.enc)) := by
 refine f_enter [] [] Tryz.func35 rfl Tryz.ntmps35 rfl (by simp) (by simp [fps]) (by simp [fps]) fun a S => ?_
 unfold slices_Clip_Swimmer at h
 replace S := S.nk [] [(0, Ba)] [] rfl ⟨rfl, trivial⟩
 refine Fs (Fg (lv S (Ra rfl) rfl ?_));clear S;intro a S
 refine Ld (Tn (Fs (Fg (lv S (Rm (S.tm rfl)) rfl ?_))));clear S;intro a S
 refine lv S (Rm (S.tm rfl)) rfl ?_;clear S;intro a S
 refine lv S (rn_lenT sl_26 (S.tm rfl) (slc_len Be)) rfl ?_;clear S;intro a S
 refine lv S (Rm (S.tm rfl)) rfl ?_;clear S;intro a S
 refine lv S (rn_lenT sl_26 (S.tm rfl) (slc_len Be)) rfl ?_;clear S;intro a S
 obtain ⟨hc1, h⟩ := chkE h
 obtain ⟨v1, hs1, hr1⟩ := rn_cutTh3 (y2 := .tmp 7) (a := a) (x := .tmp 3) (y' := .tmp 5) (ty := 26) sl_26 Be (S.tm rfl) (S.tm rfl) (S.tm rfl) hc1
 refine lv S (hr1 _) rfl ?_;clear S;intro a S
 clear hr1
 refine lv S (Ra (S.tm rfl)) rfl ?_;clear S;intro a S
 refine Ld (Tn (wp_ret ?_))
 obtain rfl := Option.some.inj h
 exact f_ret S Tryz.results35 rfl (hs1.mono (View.le_trans (le_join_left _ _) (all_out hψ S.le_newer)))
end Go.Proofs.YtkpjakcepffimaaGreatDoor
