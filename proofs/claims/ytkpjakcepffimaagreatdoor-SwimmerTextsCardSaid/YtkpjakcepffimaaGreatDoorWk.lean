/- Each Go function computes its plain twin, by program. -/
import Derived.Test.YtkpjakcepffimaaGreatDoorWk1
namespace Go.Proofs.YtkpjakcepffimaaGreatDoor
open Go
theorem swimmer_Read_ok (w : World) (ψ : View) (hψ : View.le ψ (view w [])) (Au : ByteArray) (hg_maxlen : GlobI ψ 0) (r : (List GSwimmer) × Int × Int) (h : swimmer_Read Au = some r) :
    Calls Tryz.prog 9 [sV Au].toArray w (Ret w [] fun τ v _ => ∃ u1 : Value, v = .tuple #[u1, iV r.2.1, iV r.2.2] ∧ Slc (join ψ τ) 3 u1 (r.1.map GSwimmer.enc)) := by
 refine f_enter [] [] Tryz.func9 rfl Tryz.ntmps9 rfl (by simp) (by simp [fps]) (by simp [fps]) fun a S => ?_
 unfold swimmer_Read at h
 replace S := S.nk [] [(0, sV Au)] [] rfl ⟨rfl, trivial⟩
 refine Fs (Fg (lv S (Ra rfl) rfl ?_));clear S;intro a S
 refine lv S (Ra rfl) rfl ?_;clear S;intro a S
 refine lv S (Ra rfl) rfl ?_;clear S;intro a S
 refine Ld (Tn (Fs (Fs (Fg (lv S (Rm (S.tm rfl)) rfl ?_)))));clear S;intro a S
 refine lv S (rn_len_str Tryz.underlying9 (S.tm rfl)) rfl ?_;clear S;intro a S
 refine lv S (rn_gtr (S.tm rfl) rfl) rfl ?_;clear S;intro a S
 refine Ld (Tn (f_cond (S.tm rfl) (fun hb1 => ?_) (fun hb1 => ?_)))
 ·replace h := iteT h hb1
  refine Fs (Fg (lv S (Ra rfl) rfl ?_));clear S;intro a S
  refine lv S (Ra rfl) rfl ?_;clear S;intro a S
  refine lv S (Ra rfl) rfl ?_;clear S;intro a S
  refine Ld (Tn (wp_ret (then_r ?_)))
  obtain rfl := Option.some.inj h
  exact f_ret3 S Tryz.results9 rfl rfl rfl ⟨_, rfl, (slc_nilT _ _)⟩
 ·replace h := iteF h hb1
  refine wp_skip (Tn (Fs (Fg (l_alloc S Tryz.zeroValue26 (cs := [.slice none 0 0]) rfl rfl ?_))));clear S;intro a w1 b1 hz1 hk1 S
  refine Ld (Tn (Fs (Fs (Fg (lv S (Rm (S.tm rfl)) rfl ?_)))));clear S;intro a S
  refine lv S (rn_makeFunc (us := #[]) (xs := [].toArray) (ys := [.tmp 5].toArray) (by simp) (evA ⟨(S.tm rfl), trivial⟩ (vs := [.pointer (some ⟨b1, 0, none⟩)]))) rfl ?_;clear S;intro a S
  replace S := S.nil 38 3
  obtain ⟨r1, hr1, h⟩ := bindE h
  refine l_enterG [1, 0] [] (Ls := [.blk b1 [(.slice none 0 0)] 26, .own (.slice none 0 0) 38 3 ([] : List GSwimmer).length (([] : List GSwimmer).flatMap GSwimmer.enc)]) (Lr := []) (Y := [b1] ++ (Value.ownBlock (.slice none 0 0)).toList) S rfl rfl rfl (by simp [fps_cons, fps_nil, LEnt.fp]) (fun _ => run_call (vs := [sV Au, .func (.func 32) #[] #[.pointer (some ⟨b1, 0, none⟩)]]) ⟨(S.tm rfl), (S.tm rfl), trivial⟩ Tryz.call31) (words_Lines_swimmer_Read_c1_ok _ ([b1] ++ (Value.ownBlock (.slice none 0 0)).toList) Au b1 (.slice none 0 0) ([] : List GSwimmer) (S.holds _ (List.mem_of_getElem? (i := 0) rfl)) (S.holds _ (List.mem_of_getElem? (i := 1) rfl)) (hg_maxlen.mono (View.le_trans hψ (S.le_arg (app_sub (fp_sub (i := 1) (e := .blk b1 [(.slice none 0 0)] 26) rfl) (fp_sub (i := 0) (e := .own (.slice none 0 0) 38 3 ([] : List GSwimmer).length (([] : List GSwimmer).flatMap GSwimmer.enc)) rfl))))) (S.ndg [1, 0] [] rfl rfl rfl (by simp [fps_cons, fps_nil, LEnt.fp])) (by simp [fps_cons, fps_nil, LEnt.fp]) _ hr1) rfl ?_;clear S;intro v1 a w2 hv1 hk2 hn1 S
  obtain ⟨v2, hg1, hv1⟩ := hv1;replace S := S _ hg1;clear hg1
  subst hv1
  refine lv S (Rm (S.tm rfl)) rfl ?_;clear S;intro a S
  refine lv S (rn_extract (S.tm rfl) rfl) rfl ?_;clear S;intro a S
  refine lv S (rn_extract (S.tm rfl) rfl) rfl ?_;clear S;intro a S
  refine lv S (Ra (S.tm rfl)) rfl ?_;clear S;intro a S
  refine lv S (Ra (S.tm rfl)) rfl ?_;clear S;intro a S
  refine Ld ?_
  replace S := S.nk [.blk b1 [v2] 26, .own v2 38 3 r1.2.2.length (r1.2.2.flatMap GSwimmer.enc)] [(5, .pointer (some ⟨b1, 0, none⟩)), (6, iV r1.1), (7, bV r1.2.1)] [true, true] rfl (subR rfl)
  refine Tn (Fs (Fg (lv S (Rm (S.tm rfl)) rfl ?_)));clear S;intro a S
  refine lv S (rn_not (S.tm rfl)) rfl ?_;clear S;intro a S
  refine Ld (Tn (f_cond (S.tm rfl) (fun hb2 => ?_) (fun hb2 => ?_)))
  ·replace h := iteT h hb2
   refine Fs (Fg (lv S (Rm (S.tm rfl)) rfl ?_));clear S;intro a S
   refine lv S (Ra rfl) rfl ?_;clear S;intro a S
   refine lv S (Ra (S.tm rfl)) rfl ?_;clear S;intro a S
   refine lv S (Ra rfl) rfl ?_;clear S;intro a S
   refine Ld (Tn (wp_ret (then_r ?_)))
   obtain rfl := Option.some.inj h
   exact f_ret3 S Tryz.results9 rfl rfl rfl ⟨_, rfl, (slc_nilT _ _)⟩
  ·replace h := iteF h hb2
   refine wp_skip (Tn (Fs (Fs (Fg (lv S (rn_load Tryz.isAgg26 (S.tm rfl) (S.cell (i := 0) rfl rfl)) rfl ?_)))));clear S;intro a S
   obtain ⟨r2, hr2, h⟩ := bindE h
   refine l_enter S (fun _ => run_call (vs := [v2]) ⟨(S.tm rfl), trivial⟩ Tryz.call20) (swimmer_CheckSwimmers_ok _ v2 r1.2.2 (own_slcT GSwimmer.enc_ok S (i := 1) rfl (ne_nil (e' := .own v2 38 3 r1.2.2.length (r1.2.2.flatMap GSwimmer.enc)))) _ hr2) rfl ?_;clear S;intro v3 a w3 hv2 hk3 hn2 S
   subst hv2
   refine lv S (Ra (S.tm rfl)) rfl ?_;clear S;intro a S
   refine Ld (Tn (Fs (Fg (lv S (Rm (S.tm rfl)) rfl ?_))));clear S;intro a S
   refine lv S (rn_neq (S.tm rfl) rfl) rfl ?_;clear S;intro a S
   refine Ld (Tn (f_cond (S.tm rfl) (fun hb3 => ?_) (fun hb3 => ?_)))
   ·replace h := iteT h hb3
    refine Fs (Fg (lv S (Rm (S.tm rfl)) rfl ?_));clear S;intro a S
    refine lv S (Ra rfl) rfl ?_;clear S;intro a S
    refine lv S (Ra rfl) rfl ?_;clear S;intro a S
    refine lv S (Ra (S.tm rfl)) rfl ?_;clear S;intro a S
    refine Ld (Tn (wp_ret (then_r ?_)))
    obtain rfl := Option.some.inj h
    exact f_ret3 S Tryz.results9 rfl rfl rfl ⟨_, rfl, (slc_nilT _ _)⟩
   ·replace h := iteF h hb3
    refine wp_skip (Tn (Fs (Fg (lv S (rn_load Tryz.isAgg26 (S.tm rfl) (S.cell (i := 0) rfl rfl)) rfl ?_))));clear S;intro a S
    obtain ⟨φ1, hl1, hs1, S⟩ := S.freezeT (xs := r1.2.2) (enc := GSwimmer.enc) (i := 1) rfl (fun _ h => by cases h)
    replace S := S.nk [.blk b1 [v2] 26] [(5, .pointer (some ⟨b1, 0, none⟩)), (6, iV r1.1), (7, bV r1.2.1), (8, iV r2), (18, bV r1.2.1), (19, bV (!r1.2.1)), (21, v2), (22, iV r2), (23, iV r2), (24, bV (!decide (r2 = 0))), (26, v2)] [] rfl (subR rfl)
    obtain ⟨r3, hr3, h⟩ := bindE h
    have hz2 := S.keep.size
    refine l_enter S (fun _ => run_call (vs := [v2]) ⟨(S.tm rfl), trivial⟩ Tryz.call35) (slices_Clip_Swimmer_ok _ (join ψ φ1) (join_le (View.le_trans hψ (S.le_arg nil_sub)) (S.le_new nil_sub)) v2 r1.2.2 ((ownV_slcT GSwimmer.enc_ok hs1).mono (S.all_right hψ)) _ hr3) rfl ?_;clear S;intro v4 a w4 hv3 hk4 hn3 S
    obtain ⟨φ2, hl2, hm1, S⟩ := S.see' hn3 hz2
    have hs2 := hv3.mono (all_step hl2 hm1)
    refine lv S (Ra (S.tm rfl)) rfl ?_;clear S;intro a S
    refine lv S (Ra rfl) rfl ?_;clear S;intro a S
    refine lv S (Ra rfl) rfl ?_;clear S;intro a S
    refine Ld ?_
    replace S := S.nk [] [(2, v4), (3, iV 0), (4, iV 0)] [false] rfl (subR rfl)
    refine Tn (wp_ret ?_)
    obtain rfl := Option.some.inj h
    exact f_ret3 S Tryz.results9 rfl rfl rfl ⟨_, rfl, (hs2.mono (all_out hψ S.le_newer))⟩
theorem slices_Index_string_ok (w : World) (Ba : Value) (Ad : List ByteArray) (Be : Slc (view w []) 1 Ba (Ad.map eStr)) (Bm : ByteArray) (r : Int) (h : slices_Index_string Ad Bm = r) :
    Calls Tryz.prog 81 [Ba, sV Bm].toArray w (Ret w [] fun _ v _ => v = iV r) := by
 refine f_enter [] [] Tryz.func81 rfl Tryz.ntmps81 rfl (by simp) (by simp [fps]) (by simp [fps]) fun a S => ?_
 unfold slices_Index_string at h
 replace S := S.nk [] [(0, Ba), (1, sV Bm)] [] rfl (subR rfl)
 refine Fs (Fg (lv S (Ra rfl) rfl ?_));clear S;intro a S
 refine Ld (Tn (Fs (Fs (Fg (lv S (Rm (S.tm rfl)) rfl ?_)))));clear S;intro a S
 refine lv S (rn_lenT sl_65 (S.tm rfl) (slc_len Be)) rfl ?_;clear S;intro a S
 refine lv S (Rm rfl) rfl ?_;clear S;intro a S
 refine Ld (Tn ?_)
 replace S := S.nk [] [(0, Ba), (1, sV Bm), (7, iV (Ad.length : Int)), (8, iV 0)] [] rfl (subR rfl)
 obtain ⟨j1, hj1, h⟩ := joinE h
 refine f_join (fun a w' => j1 = r ∧ Sx w [] nov [] [] 19 a w') ?_ ?_
 ·refine wp_block (f_loop (fun (ys1 : List ByteArray) a w' => ∃ i1 : Nat, (∃ dn, Ad = dn ++ ys1 ∧ dn.length = i1) ∧ slices_Index_string_l1 Bm j1 ys1 i1 = r ∧ Sx w [] nov [] [(0, Ba), (1, sV Bm), (7, iV (Ad.length : Int)), (8, iV (i1 : Int))] 19 a w') List.length Ad ⟨0, ⟨[], rfl, rfl⟩, h, S.nf [] rfl (subR rfl)⟩ ?_)
  clear S h;rintro ys1 a w1 ⟨i1, ⟨dn, hd1, hi1⟩, h, S⟩
  cases ys1 with
  | nil =>
   rw [slices_Index_string_l1.eq_1] at h
   refine Fs (Fg (lv S (rn_lss (S.tm rfl) (S.tm rfl)) rfl ?_));clear S;intro a S
   refine Ld ?_
   replace S := S.nk [] [(0, Ba), (1, sV Bm), (7, iV (Ad.length : Int)), (8, iV (i1 : Int)), (9, bV (decide ((i1 : Int) < (Ad.length : Int))))] [] rfl (subR rfl)
   refine Tn (Fs (wp_cond_false ((S.tm rfl).trans (congrArg Value.bool (rng_nil hd1 hi1))) (wp_exit (then_x (then_x (x_same ?_))))))
   refine Tn ?_
   exact ⟨h, S.nf [] rfl trivial⟩
  | cons y1 ys1 =>
   rw [slices_Index_string_l1.eq_2] at h
   refine Fs (Fg (lv S (rn_lss (S.tm rfl) (S.tm rfl)) rfl ?_));clear S;intro a S
   refine Ld ?_
   replace S := S.nk [] [(0, Ba), (1, sV Bm), (7, iV (Ad.length : Int)), (8, iV (i1 : Int)), (9, bV (decide ((i1 : Int) < (Ad.length : Int))))] [] rfl (subR rfl)
   refine Tn (Fs (wp_cond_true ((S.tm rfl).trans (congrArg Value.bool (rng_cons hd1 hi1))) (wp_skip (Tn (Fs (wp_block ?_))))))
   refine Fs (Fg (lv S (Rm (S.tm rfl)) rfl ?_));clear S;intro a S
   refine lv S (Ra (S.tm rfl)) rfl ?_;clear S;intro a S
   refine Ld (Tn (Fs (Fg (lv S (Rm (S.tm rfl)) rfl ?_))));clear S;intro a S
   refine lv S (Rm (S.tm rfl)) rfl ?_;clear S;intro a S
   refine lv S (Rm (S.tm rfl)) rfl ?_;clear S;intro a S
   obtain ⟨b1, o1, hm1, hr1⟩ := rn_indexT (a := a) (x := .tmp 12) (y := .tmp 13) (ty := 0) sl_65 Be (get_mid hd1 hi1) rfl (S.tm rfl) (S.tm rfl)
   refine lv S (hr1 _) rfl ?_;clear S;intro a S
   clear hr1
   refine lv S (rn_ld Tryz.isAgg9 (off := o1) (o := 0) (S.tm rfl) (hm1.at S.emb0) rfl) rfl ?_;clear S;intro a S
   refine lv S (rn_seql (S.tm rfl) (S.tm rfl)) rfl ?_;clear S;intro a S
   refine Ld (Tn (f_cond (S.tm rfl) (fun hb1 => ?_) (fun hb1 => ?_)))
   ·replace h := iteT h hb1
    refine Fs (Fg (lv S (Rm (S.tm rfl)) rfl ?_));clear S;intro a S
    refine lv S (Ra (S.tm rfl)) rfl ?_;clear S;intro a S
    refine Ld ?_
    replace S := S.nk [] [(4, iV (i1 : Int))] [] rfl ⟨rfl, trivial⟩
    refine Tn (wp_ret (blk_r (then_r (then_r (blk_r (then_r ?_))))))
    refine then_r ?_
    subst h
    exact f_ret S Tryz.results81 rfl rfl
   ·replace h := iteF h hb1
    refine wp_skip (blk_n (Tn (Fg (lv S (rn_add (S.tm rfl) rfl) rfl ?_))));clear S;intro a S
    refine lv S (Rm (S.tm rfl)) rfl ?_;clear S;intro a S
    refine Ld (Tn ?_)
    exact ⟨ys1, ⟨i1 + 1, ⟨_, (hd1).trans (List.append_cons _ _ _), by simp [hi1]⟩, h, S.nf [] rfl ⟨rfl, rfl, rfl, (congrArg (fun z => some (Value.int .i64 z)) (rng_next hd1 hi1 (slc_max Be))), trivial⟩⟩, Nat.lt_succ_self _⟩
 clear S h;rintro a w2 ⟨h, S⟩;rw [hj1] at h;clear hj1 j1
 refine Tn (Fs (Fg (lv S (Ra rfl) rfl ?_)));clear S;intro a S
 refine Ld (Tn (wp_ret ?_))
 subst h
 exact f_ret S Tryz.results81 rfl rfl
theorem slices_Contains_string_ok (w : World) (Ba : Value) (Ad : List ByteArray) (Be : Slc (view w []) 1 Ba (Ad.map eStr)) (Bm : ByteArray) (r : Bool) (h : slices_Contains_string Ad Bm = r) :
    Calls Tryz.prog 59 [Ba, sV Bm].toArray w (Ret w [] fun _ v _ => v = bV r) := by
 refine f_enter [] [] Tryz.func59 rfl Tryz.ntmps59 rfl (by simp) (by simp [fps]) (by simp [fps]) fun a S => ?_
 unfold slices_Contains_string at h
 replace S := S.nk [] [(0, Ba), (1, sV Bm)] [] rfl (subR rfl)
 refine Fs (Fg (lv S (Ra rfl) rfl ?_));clear S;intro a S
 refine Ld (Tn (Fs (Fg (lv S (Rm (S.tm rfl)) rfl ?_))));clear S;intro a S
 refine lv S (Rm (S.tm rfl)) rfl ?_;clear S;intro a S
 refine l_enter S (fun _ => run_call (vs := [Ba, sV Bm]) ⟨(S.tm rfl), (S.tm rfl), trivial⟩ Tryz.call81) (slices_Index_string_ok _ Ba Ad (Be.mono (S.le_arg nil_sub)) Bm _ rfl) rfl ?_;clear S;intro v1 a w1 hv1 hk1 hn1 S
 subst hv1
 refine lv S (rn_geq (S.tm rfl) rfl) rfl ?_;clear S;intro a S
 refine lv S (Ra (S.tm rfl)) rfl ?_;clear S;intro a S
 refine Ld (Tn (wp_ret ?_))
 subst h
 exact f_ret S Tryz.results59 rfl rfl
theorem tumbref2_Words_ok (w : World) (At : ByteArray) (hg_maxlen : GlobI (view w []) 0) (r : (List ByteArray) × Bool) (h : tumbref2_Words At = some r) :
    Calls Tryz.prog 38 [sV At].toArray w (Ret w [] fun τ v _ => ∃ u1 : Value, v = .tuple #[u1, bV r.2] ∧ OwnV τ 9 1 u1 r.1.length (r.1.flatMap eStr)) := by
 refine f_enter [] [] Tryz.func38 rfl Tryz.ntmps38 rfl (by simp) (by simp [fps]) (by simp [fps]) fun a S => ?_
 unfold tumbref2_Words at h
 replace S := S.nk [] [(0, sV At)] [] rfl ⟨rfl, trivial⟩
 refine Fs (Fg (lv S (Ra rfl) rfl ?_));clear S;intro a S
 refine lv S (Ra rfl) rfl ?_;clear S;intro a S
 refine Ld (Tn (Fs (Fg (lv S (Rm (S.tm rfl)) rfl ?_))));clear S;intro a S
 obtain ⟨r1, hr1, h⟩ := bindE h
 have hz1 := S.keep.size
 refine l_enter S (fun _ => run_call (vs := [sV At, sV k__20]) ⟨(S.tm rfl), rfl, trivial⟩ Tryz.call39) (strings_Split_ok _ At k__20 (hg_maxlen.mono (S.le_arg nil_sub)) _ hr1) rfl ?_;clear S;intro v1 a w1 hv1 hk1 hn1 S
 obtain ⟨φ1, hl1, hm1, S⟩ := S.see' hn1 hz1
 have hs1 := hv1.mono hm1
 refine lv S (Ra (S.tm rfl)) rfl ?_;clear S;intro a S
 refine Ld (Tn (Fs (Fg (lv S (Rm (S.tm rfl)) rfl ?_))));clear S;intro a S
 refine lv S (Rm (S.tm rfl)) rfl ?_;clear S;intro a S
 refine l_enter S (fun _ => run_call (vs := [v1, sV k_empty]) ⟨(S.tm rfl), rfl, trivial⟩ Tryz.call59) (slices_Contains_string_ok _ v1 r1 ((ownV_slcT enc_str hs1).mono (S.le_new nil_sub)) k_empty _ rfl) rfl ?_;clear S;intro v2 a w2 hv2 hk2 hn2 S
 subst hv2
 refine lv S (rn_not (S.tm rfl)) rfl ?_;clear S;intro a S
 refine lv S (Ra (S.tm rfl)) rfl ?_;clear S;intro a S
 refine lv S (Ra (S.tm rfl)) rfl ?_;clear S;intro a S
 refine Ld (Tn (wp_ret ?_))
 obtain rfl := Option.some.inj h
 exact f_ret2 S Tryz.results38 rfl rfl ⟨_, rfl, ((hs1).mono S.le_newer)⟩
theorem cmp_isNaN_int_ok (w : World) (Bi : Int) (r : Bool) (h : cmp_isNaN_int Bi = r) :
    Calls Tryz.prog 121 [iV Bi].toArray w (Ret w [] fun _ v _ => v = bV r) := by
 refine f_enter [] [] Tryz.func121 rfl Tryz.ntmps121 rfl (by simp) (by simp [fps]) (by simp [fps]) fun a S => ?_
 unfold cmp_isNaN_int at h
 replace S := S.nk [] [(0, iV Bi)] [] rfl ⟨rfl, trivial⟩
 refine Fs (Fg (lv S (Ra rfl) rfl ?_));clear S;intro a S
 refine Ld (Tn (Fs (Fg (lv S (Rm (S.tm rfl)) rfl ?_))));clear S;intro a S
 refine lv S (Rm (S.tm rfl)) rfl ?_;clear S;intro a S
 refine lv S (rn_neq (S.tm rfl) (S.tm rfl)) rfl ?_;clear S;intro a S
 refine lv S (Ra (S.tm rfl)) rfl ?_;clear S;intro a S
 refine Ld (Tn (wp_ret ?_))
 subst h
 exact f_ret S Tryz.results121 rfl rfl
theorem cmp_Compare_int_ok (w : World) (Bi : Int) (Bb : Int) (r : Int) (h : cmp_Compare_int Bi Bb = r) :
    Calls Tryz.prog 109 [iV Bi, iV Bb].toArray w (Ret w [] fun _ v _ => v = iV r) := by
 refine f_enter [] [] Tryz.func109 rfl Tryz.ntmps109 rfl (by simp) (by simp [fps]) (by simp [fps]) fun a S => ?_
 unfold cmp_Compare_int at h
 replace S := S.nk [] [(0, iV Bi), (1, iV Bb)] [] rfl (subR rfl)
 refine Fs (Fg (lv S (Ra rfl) rfl ?_));clear S;intro a S
 refine Ld (Tn (Fs (Fg (lv S (Rm (S.tm rfl)) rfl ?_))));clear S;intro a S
 refine l_enter S (fun _ => run_call (vs := [iV Bi]) ⟨(S.tm rfl), trivial⟩ Tryz.call121) (cmp_isNaN_int_ok _ Bi _ rfl) rfl ?_;clear S;intro v1 a w1 hv1 hk1 hn1 S
 subst hv1
 refine lv S (Ra (S.tm rfl)) rfl ?_;clear S;intro a S
 refine Ld (Tn (Fs (Fg (lv S (Rm (S.tm rfl)) rfl ?_))));clear S;intro a S
 refine l_enter S (fun _ => run_call (vs := [iV Bb]) ⟨(S.tm rfl), trivial⟩ Tryz.call121) (cmp_isNaN_int_ok _ Bb _ rfl) rfl ?_;clear S;intro v2 a w2 hv2 hk2 hn2 S
 subst hv2
 refine lv S (Ra (S.tm rfl)) rfl ?_;clear S;intro a S
 refine Ld (Tn (Fs (Fs (Fg (lv S (Rm (S.tm rfl)) rfl ?_)))));clear S;intro a S
 refine Ld (Tn (f_cond (S.tm rfl) (fun hb1 => ?_) (fun hb1 => ?_)))
 ·replace h := iteT h hb1
  refine Fs (Fs (Fg (lv S (Rm (S.tm rfl)) rfl ?_)));clear S;intro a S
  refine Ld (Tn (f_cond (S.tm rfl) (fun hb2 => ?_) (fun hb2 => ?_)))
  ·replace h := iteT h hb2
   refine Fs (Fg (lv S (Ra rfl) rfl ?_));clear S;intro a S
   refine Ld (Tn (wp_ret (then_r (then_r ?_))))
   subst h
   exact f_ret S Tryz.results109 rfl rfl
  ·replace h := iteF h hb2
   refine wp_skip (Tn (Fs (Fg (lv S (Ra rfl) rfl ?_))));clear S;intro a S
   refine Ld (Tn (wp_ret (then_r ?_)))
   subst h
   exact f_ret S Tryz.results109 rfl rfl
 ·replace h := iteF h hb1
  refine wp_skip (Tn (Fs (Fs (Fg (lv S (Rm (S.tm rfl)) rfl ?_)))));clear S;intro a S
  refine Ld (Tn (f_cond (S.tm rfl) (fun hb3 => ?_) (fun hb3 => ?_)))
  ·replace h := iteT h hb3
   refine Fs (Fg (lv S (Ra rfl) rfl ?_));clear S;intro a S
   refine Ld (Tn (wp_ret (then_r ?_)))
   subst h
   exact f_ret S Tryz.results109 rfl rfl
  ·replace h := iteF h hb3
   refine wp_skip (Tn (Fs (Fs (Fg (lv S (Rm (S.tm rfl)) rfl ?_)))));clear S;intro a S
   refine lv S (Rm (S.tm rfl)) rfl ?_;clear S;intro a S
   refine lv S (rn_lss (S.tm rfl) (S.tm rfl)) rfl ?_;clear S;intro a S
   refine Ld (Tn (f_cond (S.tm rfl) (fun hb4 => ?_) (fun hb4 => ?_)))
   ·replace h := iteT h hb4
    refine Fs (Fg (lv S (Ra rfl) rfl ?_));clear S;intro a S
    refine Ld (Tn (wp_ret (then_r ?_)))
    subst h
    exact f_ret S Tryz.results109 rfl rfl
   ·replace h := iteF h hb4
    refine wp_skip (Tn (Fs (Fs (Fg (lv S (Rm (S.tm rfl)) rfl ?_)))));clear S;intro a S
    refine lv S (Rm (S.tm rfl)) rfl ?_;clear S;intro a S
    refine lv S (rn_gtr (S.tm rfl) (S.tm rfl)) rfl ?_;clear S;intro a S
    refine Ld ?_
    replace S := S.nk [] [(19, bV (decide (Bb < Bi)))] [] rfl ⟨rfl, trivial⟩
    refine Tn (f_cond (S.tm rfl) (fun hb5 => ?_) (fun hb5 => ?_))
    ·replace h := iteT h hb5
     refine Fs (Fg (lv S (Ra rfl) rfl ?_));clear S;intro a S
     refine Ld (Tn (wp_ret (then_r ?_)))
     subst h
     exact f_ret S Tryz.results109 rfl rfl
    ·replace h := iteF h hb5
     refine wp_skip (Tn (Fs (Fg (lv S (Ra rfl) rfl ?_))));clear S;intro a S
     refine Ld (Tn (wp_ret ?_))
     subst h
     exact f_ret S Tryz.results109 rfl rfl
theorem slices_Compare_int_ok (w : World) (As : Value) (Ax : List Int) (Bd : Slc (view w []) 1 As (Ax.map eInt)) (Av : Value) (Bf : List Int) (Bl : Slc (view w []) 1 Av (Bf.map eInt)) (r : Int) (h : slices_Compare_int Ax Bf = some r) :
    Calls Tryz.prog 90 [As, Av].toArray w (Ret w [] fun _ v _ => v = iV r) := by
 refine f_enter [] [] Tryz.func90 rfl Tryz.ntmps90 rfl (by simp) (by simp [fps]) (by simp [fps]) fun a S => ?_
 unfold slices_Compare_int at h
 replace S := S.nk [] [(0, As), (1, Av)] [] rfl (subR rfl)
 refine Fs (Fg (lv S (Ra rfl) rfl ?_));clear S;intro a S
 refine Ld (Tn (Fs (Fs (Fg (lv S (Rm (S.tm rfl)) rfl ?_)))));clear S;intro a S
 refine lv S (rn_lenT sl_22 (S.tm rfl) (slc_len Bd)) rfl ?_;clear S;intro a S
 refine lv S (Rm rfl) rfl ?_;clear S;intro a S
 refine Ld (Tn ?_)
 replace S := S.nk [] [(0, As), (1, Av), (9, As), (10, iV (Ax.length : Int)), (11, iV 0)] [] rfl (subR rfl)
 obtain ⟨j1, hj1, h⟩ := joinE h
 refine f_join (fun a w' => j1 = some r ∧ Sx w [] nov [] [(0, As), (1, Av)] 36 a w') ?_ ?_
 ·refine wp_block (f_loop (fun (ys1 : List Int) a w' => ∃ i1 : Nat, (∃ dn, Ax = dn ++ ys1 ∧ dn.length = i1) ∧ slices_Compare_int_l1 Bf j1 ys1 i1 = some r ∧ Sx w [] nov [] [(0, As), (1, Av), (9, As), (10, iV (Ax.length : Int)), (11, iV (i1 : Int))] 36 a w') List.length Ax ⟨0, ⟨[], rfl, rfl⟩, h, S.nf [] rfl (subR rfl)⟩ ?_)
  clear S h;rintro ys1 a w1 ⟨i1, ⟨dn, hd1, hi1⟩, h, S⟩
  cases ys1 with
  | nil =>
   rw [slices_Compare_int_l1.eq_1] at h
   refine Fs (Fg (lv S (rn_lss (S.tm rfl) (S.tm rfl)) rfl ?_));clear S;intro a S
   refine Ld ?_
   replace S := S.nk [] [(0, As), (1, Av), (9, As), (10, iV (Ax.length : Int)), (11, iV (i1 : Int)), (12, bV (decide ((i1 : Int) < (Ax.length : Int))))] [] rfl (subR rfl)
   refine Tn (Fs (wp_cond_false ((S.tm rfl).trans (congrArg Value.bool (rng_nil hd1 hi1))) (wp_exit (then_x (then_x (x_same ?_))))))
   refine Tn ?_
   exact ⟨h, S.nf [] rfl (subR rfl)⟩
  | cons y1 ys1 =>
   rw [slices_Compare_int_l1.eq_2] at h
   refine Fs (Fg (lv S (rn_lss (S.tm rfl) (S.tm rfl)) rfl ?_));clear S;intro a S
   refine Ld ?_
   replace S := S.nk [] [(0, As), (1, Av), (9, As), (10, iV (Ax.length : Int)), (11, iV (i1 : Int)), (12, bV (decide ((i1 : Int) < (Ax.length : Int))))] [] rfl (subR rfl)
   refine Tn (Fs (wp_cond_true ((S.tm rfl).trans (congrArg Value.bool (rng_cons hd1 hi1))) (wp_skip (Tn (Fs (wp_block ?_))))))
   refine Fs (Fg (lv S (Rm (S.tm rfl)) rfl ?_));clear S;intro a S
   obtain ⟨b1, o1, hm1, hr1⟩ := rn_indexT (a := a) (x := .tmp 9) (y := .tmp 11) (ty := 0) sl_22 Bd (get_mid hd1 hi1) rfl (S.tm rfl) (S.tm rfl)
   refine lv S (hr1 _) rfl ?_;clear S;intro a S
   clear hr1
   refine lv S (rn_ld Tryz.isAgg3 (off := o1) (o := 0) (S.tm rfl) (hm1.at S.emb0) rfl) rfl ?_;clear S;intro a S
   refine lv S (Ra (S.tm rfl)) rfl ?_;clear S;intro a S
   refine lv S (Ra (S.tm rfl)) rfl ?_;clear S;intro a S
   refine Ld (Tn (Fs (Fs (Fg (lv S (Rm (S.tm rfl)) rfl ?_)))));clear S;intro a S
   refine lv S (Rm (S.tm rfl)) rfl ?_;clear S;intro a S
   refine lv S (rn_lenT sl_22 (S.tm rfl) (slc_len Bl)) rfl ?_;clear S;intro a S
   refine lv S (rn_geq (S.tm rfl) (S.tm rfl)) rfl ?_;clear S;intro a S
   refine Ld ?_
   replace S := S.nk [] [(0, As), (1, Av), (5, iV (i1 : Int)), (6, iV y1), (9, As), (10, iV (Ax.length : Int)), (11, iV (i1 : Int)), (19, bV (decide ((Bf.length : Int) ≤ (i1 : Int))))] [] rfl (subR rfl)
   refine Tn (f_cond (S.tm rfl) (fun hb1 => ?_) (fun hb1 => ?_))
   ·replace h := iteT h hb1
    refine Fs (Fg (lv S (Ra rfl) rfl ?_));clear S;intro a S
    refine Ld (Tn (wp_ret (then_r (blk_r (then_r (then_r ?_))))))
    refine blk_r (then_r (then_r ?_))
    obtain rfl := Option.some.inj h
    exact f_ret S Tryz.results90 rfl rfl
   ·replace h := iteF h hb1
    refine wp_skip (Tn (Fs (Fg (lv S (Rm (S.tm rfl)) rfl ?_))));clear S;intro a S
    refine lv S (Rm (S.tm rfl)) rfl ?_;clear S;intro a S
    obtain ⟨hc1, h⟩ := chkE h
    obtain ⟨b2, o2, hm2, hr2⟩ := rn_indexT (a := a) (x := .tmp 20) (y := .tmp 21) (ty := 0) sl_22 Bl (inB_get hc1).1 (inB_get hc1).2 (S.tm rfl) (S.tm rfl)
    refine lv S (hr2 _) rfl ?_;clear S;intro a S
    clear hr2
    refine lv S (rn_ld Tryz.isAgg3 (off := o2) (o := 0) (S.tm rfl) (hm2.at S.emb0) rfl) rfl ?_;clear S;intro a S
    refine lv S (Ra (S.tm rfl)) rfl ?_;clear S;intro a S
    refine Ld (Tn (Fs (Fg (lv S (Rm (S.tm rfl)) rfl ?_))));clear S;intro a S
    refine lv S (Rm (S.tm rfl)) rfl ?_;clear S;intro a S
    refine l_enter S (fun _ => run_call (vs := [iV y1, iV (nth Bf (i1 : Int))]) ⟨(S.tm rfl), (S.tm rfl), trivial⟩ Tryz.call109) (cmp_Compare_int_ok _ y1 (nth Bf (i1 : Int)) _ rfl) rfl ?_;clear S;intro v1 a w3 hv1 hk1 hn1 S
    subst hv1
    refine lv S (Ra (S.tm rfl)) rfl ?_;clear S;intro a S
    refine Ld ?_
    replace S := S.nk [] [(0, As), (1, Av), (8, iV (cmp_Compare_int y1 (nth Bf (i1 : Int)))), (9, As), (10, iV (Ax.length : Int)), (11, iV (i1 : Int))] [] rfl (subR rfl)
    refine Tn (Fs (Fg (lv S (Rm (S.tm rfl)) rfl ?_)));clear S;intro a S
    refine lv S (rn_neq (S.tm rfl) rfl) rfl ?_;clear S;intro a S
    refine Ld (Tn (f_cond (S.tm rfl) (fun hb2 => ?_) (fun hb2 => ?_)))
    ·replace h := iteT h hb2
     refine Fs (Fg (lv S (Rm (S.tm rfl)) rfl ?_));clear S;intro a S
     refine lv S (Ra (S.tm rfl)) rfl ?_;clear S;intro a S
     refine Ld (Tn (wp_ret (blk_r (then_r (then_r (blk_r ?_))))))
     refine then_r (then_r ?_)
     obtain rfl := Option.some.inj h
     exact f_ret S Tryz.results90 rfl rfl
    ·replace h := iteF h hb2
     refine wp_skip (blk_n (Tn (Fg (lv S (rn_add (S.tm rfl) rfl) rfl ?_))));clear S;intro a S
     refine lv S (Rm (S.tm rfl)) rfl ?_;clear S;intro a S
     refine Ld (Tn ?_)
     exact ⟨ys1, ⟨i1 + 1, ⟨_, (hd1).trans (List.append_cons _ _ _), by simp [hi1]⟩, h, S.nf [] rfl ⟨rfl, rfl, rfl, rfl, (congrArg (fun z => some (Value.int .i64 z)) (rng_next hd1 hi1 (slc_max Bd))), trivial⟩⟩, Nat.lt_succ_self _⟩
 clear S h;rintro a w2 ⟨h, S⟩;rw [hj1] at h;clear hj1 j1
 refine Tn (Fs (Fs (Fg (lv S (Rm (S.tm rfl)) rfl ?_))));clear S;intro a S
 refine lv S (rn_lenT sl_22 (S.tm rfl) (slc_len Bd)) rfl ?_;clear S;intro a S
 refine lv S (Rm (S.tm rfl)) rfl ?_;clear S;intro a S
 refine lv S (rn_lenT sl_22 (S.tm rfl) (slc_len Bl)) rfl ?_;clear S;intro a S
 refine lv S (rn_lss (S.tm rfl) (S.tm rfl)) rfl ?_;clear S;intro a S
 refine Ld (Tn (f_cond (S.tm rfl) (fun hb3 => ?_) (fun hb3 => ?_)))
 ·replace h := iteT h hb3
  refine Fs (Fg (lv S (Ra rfl) rfl ?_));clear S;intro a S
  refine Ld (Tn (wp_ret (then_r ?_)))
  obtain rfl := Option.some.inj h
  exact f_ret S Tryz.results90 rfl rfl
 ·replace h := iteF h hb3
  refine wp_skip (Tn (Fs (Fg (lv S (Ra rfl) rfl ?_))));clear S;intro a S
  refine Ld (Tn (wp_ret ?_))
  obtain rfl := Option.some.inj h
  exact f_ret S Tryz.results90 rfl rfl
theorem tumbref2_dateOrder_ok (w : World) (Bj : GDate) (Bk : GDate) (r : Int) (h : tumbref2_dateOrder Bj Bk = some r) :
    Calls Tryz.prog 64 [.agg (GDate.enc Bj).toArray, .agg (GDate.enc Bk).toArray].toArray w (Ret w [] fun _ v _ => v = iV r) := by
 refine f_enter [] [] Tryz.func64 rfl Tryz.ntmps64 rfl (by simp) (by simp [fps]) (by simp [fps]) fun a S => ?_
 unfold tumbref2_dateOrder at h
 replace S := S.nk [] [(0, .agg (GDate.enc Bj).toArray), (1, .agg (GDate.enc Bk).toArray)] [] rfl (subR rfl)
 refine Fs (Fg (l_box S (S.tm rfl) (cs := (GDate.enc Bj)) rfl rfl ?_));clear S;intro a w1 b1 hz1 hk1 S
 refine l_box S (S.tm rfl) (cs := (GDate.enc Bk)) rfl rfl ?_;clear S;intro a w2 b2 hz2 hk2 S
 refine lv S (Ra rfl) rfl ?_;clear S;intro a S
 refine Ld (Tn (Fs (Fg (lv S (rn_fld fa_53_0 (S.tm rfl)) rfl ?_))));clear S;intro a S
 refine lv S (rn_load Tryz.isAgg3 (S.tm rfl) (S.cell (i := 1) rfl rfl)) rfl ?_;clear S;intro a S
 refine lv S (rn_fld fa_53_1 (S.tm rfl)) rfl ?_;clear S;intro a S
 refine lv S (rn_load Tryz.isAgg3 (S.tm rfl) (S.cell (i := 1) rfl rfl)) rfl ?_;clear S;intro a S
 refine lv S (rn_fld fa_53_2 (S.tm rfl)) rfl ?_;clear S;intro a S
 refine lv S (rn_load Tryz.isAgg3 (S.tm rfl) (S.cell (i := 1) rfl rfl)) rfl ?_;clear S;intro a S
 refine l_buildSlice S Tryz.underlying22 Tryz.sizeOf3 Tryz.zeroValue3 rfl rfl (pv := [(0, iV Bj.Year), (1, iV Bj.Month), (2, iV Bj.Day)]) ⟨rfl, (S.tm rfl), rfl, (S.tm rfl), rfl, (S.tm rfl), trivial⟩ (cs := [iV Bj.Year, iV Bj.Month, iV Bj.Day]) (by kernel_rfl) rfl ?_;clear S;intro a w3 b3 hz3 hk3 S
 refine lv S (rn_fld fa_53_0 (S.tm rfl)) rfl ?_;clear S;intro a S
 refine lv S (rn_load Tryz.isAgg3 (S.tm rfl) (S.cell (i := 1) rfl rfl)) rfl ?_;clear S;intro a S
 refine lv S (rn_fld fa_53_1 (S.tm rfl)) rfl ?_;clear S;intro a S
 refine lv S (rn_load Tryz.isAgg3 (S.tm rfl) (S.cell (i := 1) rfl rfl)) rfl ?_;clear S;intro a S
 refine lv S (rn_fld fa_53_2 (S.tm rfl)) rfl ?_;clear S;intro a S
 refine lv S (rn_load Tryz.isAgg3 (S.tm rfl) (S.cell (i := 1) rfl rfl)) rfl ?_;clear S;intro a S
 refine l_buildSlice S Tryz.underlying22 Tryz.sizeOf3 Tryz.zeroValue3 rfl rfl (pv := [(0, iV Bk.Year), (1, iV Bk.Month), (2, iV Bk.Day)]) ⟨rfl, (S.tm rfl), rfl, (S.tm rfl), rfl, (S.tm rfl), trivial⟩ (cs := [iV Bk.Year, iV Bk.Month, iV Bk.Day]) (by kernel_rfl) rfl ?_;clear S;intro a w4 b4 hz4 hk4 S
 obtain ⟨r1, hr1, h⟩ := bindE h
 refine l_enter S (fun _ => run_call (vs := [.slice (some ⟨b3, 0, none⟩) 3 3, .slice (some ⟨b4, 0, none⟩) 3 3]) ⟨(S.tm rfl), (S.tm rfl), trivial⟩ Tryz.call90) (slices_Compare_int_ok _ (.slice (some ⟨b3, 0, none⟩) 3 3) [Bj.Year, Bj.Month, Bj.Day] (lit_slcT enc_int S (i := 1) rfl rfl rfl rfl ((ne_nil (e' := .blk b3 [iV Bj.Year, iV Bj.Month, iV Bj.Day] 3)) _ rfl)) (.slice (some ⟨b4, 0, none⟩) 3 3) [Bk.Year, Bk.Month, Bk.Day] (lit_slcT enc_int S (i := 0) rfl rfl rfl rfl ((ne_nil (e' := .blk b4 [iV Bk.Year, iV Bk.Month, iV Bk.Day] 3)) _ rfl)) _ hr1) rfl ?_;clear S;intro v1 a w5 hv1 hk5 hn1 S
 subst hv1
 refine lv S (Ra (S.tm rfl)) rfl ?_;clear S;intro a S
 refine Ld ?_
 replace S := S.nk [] [(4, iV r1)] [false, false, false, false] rfl ⟨rfl, trivial⟩
 refine Tn (wp_ret ?_)
 obtain rfl := Option.some.inj h
 exact f_ret S Tryz.results64 rfl rfl
set_option maxRecDepth 20000 in
theorem tumbref2_DayFor_ok (w : World) (V : GDate) (r : Int × Int) (h : tumbref2_DayFor V = some r) :
    Calls Tryz.prog 42 [.agg (GDate.enc V).toArray].toArray w (Ret w [] fun _ v _ => v = .tuple #[iV r.1, iV r.2]) := by
 refine f_enter [] [] Tryz.func42 rfl Tryz.ntmps42 rfl (by simp) (by simp [fps]) (by simp [fps]) fun a S => ?_
 unfold tumbref2_DayFor at h
 replace S := S.nk [] [(0, .agg (GDate.enc V).toArray)] [] rfl ⟨rfl, trivial⟩
 refine Fs (Fg (l_box S (S.tm rfl) (cs := (GDate.enc V)) rfl rfl ?_));clear S;intro a w1 b1 hz1 hk1 S
 refine lv S (Ra rfl) rfl ?_;clear S;intro a S
 refine lv S (Ra rfl) rfl ?_;clear S;intro a S
 refine Ld (Tn (Fs (Fs ?_)))
 obtain ⟨j1, hj1, h⟩ := joinE h
 refine f_join (fun a w' => ∃ x1 : Bool, j1 x1 = some r ∧ Sx w [] nov [.blk b1 (GDate.enc V) 53] [(1, .pointer (some ⟨b1, 0, none⟩)), (27, bV x1)] 50 a w') ?_ ?_
 ·rcases Bool.eq_false_or_eq_true (!(tumbref2_in V.Year 1914 2036)) with hb1 | hb1
  ·replace h := iteT h hb1
   rcases Bool.eq_false_or_eq_true true with hb2 | hb2
   ·replace h := iteT h hb2
    refine d_region [] ([]) Tryz.mixed S rfl (by kernel_rfl) ?_;clear S;intro w6 hk5 hsel S
    refine d_quiet 0 S hsel rfl rfl rfl (by kernel_rfl) (by kernel_rfl) rfl (fun _ hw => (rn_fld fa_53_0 (S.tm rfl))) ?_;clear S;intro a S
    refine d_quiet 1 S hsel rfl rfl rfl (by kernel_rfl) (by kernel_rfl) rfl (fun _ hw => (rn_ld Tryz.isAgg3 (off := 0) (o := 0) (S.tm rfl) ((S.blk_mem (i := 0) (cells := (GDate.enc V)) (b := b1) (T := 53) rfl (ne_nil (e' := .blk b1 (GDate.enc V) 53))).kept hw) rfl)) ?_;clear S;intro a S
    refine d_loud1 2 (by kernel_rfl) rfl (l_enter S (fun _ => run_call (vs := [iV V.Year, iV 1914, iV 2036]) ⟨(S.tm rfl), rfl, rfl, trivial⟩ Tryz.call27) (tumbref2_in_ok _ V.Year 1914 2036 _ rfl) rfl ?_);clear S;intro v4 a w7 hv4 hk6 hn4 S
    subst hv4
    refine Ld (d_next hk6 (d_rest [3, 4, 5, 6, 7, 8, 9, 10, 11, 12, 13, 14, 15, 16, 17, 18, 19, 20] hsel (by kernel_rfl) rfl ?_))
    clear hsel
    refine s_lv S rfl (rn_not (S.tm rfl)) rfl ?_;clear S;intro a S
    refine s_lv S rfl (Rm (S.tm rfl)) rfl ?_;clear S;intro a S
    iterate 4 (refine s_skip S rfl rfl rfl rfl (neq_t hb1) rfl ?_ rfl;clear S;intro a S)
    refine s_lv S rfl (rn_pick_b hb1 (S.tm rfl) rfl) rfl ?_;clear S;intro a S
    refine s_lv S rfl (Rm (S.tm rfl)) rfl ?_;clear S;intro a S
    iterate 9 (refine s_skip S rfl rfl rfl rfl (neq_t hb2) rfl ?_ rfl;clear S;intro a S)
    refine s_lv S rfl (rn_pick_b hb2 (S.tm rfl) rfl) rfl ?_;clear S;intro a S
    refine s_done ?_
    replace S := S.nk [.blk b1 (GDate.enc V) 53] [(1, .pointer (some ⟨b1, 0, none⟩)), (27, bV true)] [true] rfl (subR rfl)
    refine Tn ?_
    exact ⟨true, h, S.nf [true] rfl (subR rfl)⟩
   ·replace h := iteF h hb2
    obtain ⟨r1, hr1, h⟩ := bindE h
    refine d_region [] ([]) Tryz.mixed S rfl (by kernel_rfl) ?_;clear S;intro w11 hk10 hsel S
    refine d_quiet 0 S hsel rfl rfl rfl (by kernel_rfl) (by kernel_rfl) rfl (fun _ hw => (rn_fld fa_53_0 (S.tm rfl))) ?_;clear S;intro a S
    refine d_quiet 1 S hsel rfl rfl rfl (by kernel_rfl) (by kernel_rfl) rfl (fun _ hw => (rn_ld Tryz.isAgg3 (off := 0) (o := 0) (S.tm rfl) ((S.blk_mem (i := 0) (cells := (GDate.enc V)) (b := b1) (T := 53) rfl (ne_nil (e' := .blk b1 (GDate.enc V) 53))).kept hw) rfl)) ?_;clear S;intro a S
    refine d_loud1 2 (by kernel_rfl) rfl (l_enter S (fun _ => run_call (vs := [iV V.Year, iV 1914, iV 2036]) ⟨(S.tm rfl), rfl, rfl, trivial⟩ Tryz.call27) (tumbref2_in_ok _ V.Year 1914 2036 _ rfl) rfl ?_);clear S;intro v8 a w12 hv8 hk11 hn8 S
    subst hv8
    refine Ld (d_next hk11 (d_quiet 3 S hsel rfl rfl rfl (by kernel_rfl) (by kernel_rfl) rfl (fun _ hw => (rn_not (S.tm rfl))) ?_));clear S;intro a S
    refine d_quiet 4 S hsel rfl rfl rfl (by kernel_rfl) (by kernel_rfl) rfl (fun _ hw => (Rm (S.tm rfl))) ?_;clear S;intro a S
    refine d_skip 5 S hsel rfl rfl rfl rfl (neq_t hb1) rfl (by kernel_rfl) (by kernel_rfl) rfl ?_;clear S;intro a S
    refine d_skip 6 S hsel rfl rfl rfl rfl (neq_t hb1) rfl (by kernel_rfl) (by kernel_rfl) rfl ?_;clear S;intro a S
    refine d_skip 7 S hsel rfl rfl rfl rfl (neq_t hb1) rfl (by kernel_rfl) (by kernel_rfl) rfl ?_;clear S;intro a S
    refine d_skip 8 S hsel rfl rfl rfl rfl (neq_t hb1) rfl (by kernel_rfl) (by kernel_rfl) rfl ?_;clear S;intro a S
    refine d_quiet 9 S hsel rfl rfl rfl (by kernel_rfl) (by kernel_rfl) rfl (fun _ hw => (rn_pick_b hb1 (S.tm rfl) rfl)) ?_;clear S;intro a S
    refine d_quiet 10 S hsel rfl rfl rfl (by kernel_rfl) (by kernel_rfl) rfl (fun _ hw => (Rm (S.tm rfl))) ?_;clear S;intro a S
    refine d_quiet_g 11 S hsel rfl rfl rfl rfl hb2 rfl rfl (by kernel_rfl) (by kernel_rfl) rfl (fun _ hw => (rn_fld fa_53_2 (S.tm rfl))) ?_;clear S;intro a S
    refine d_quiet_g 12 S hsel rfl rfl rfl rfl hb2 rfl rfl (by kernel_rfl) (by kernel_rfl) rfl (fun _ hw => (rn_ld Tryz.isAgg3 (off := 0) (o := 2) (S.tm rfl) ((S.blk_mem (i := 0) (cells := (GDate.enc V)) (b := b1) (T := 53) rfl (ne_nil (e' := .blk b1 (GDate.enc V) 53))).kept hw) rfl)) ?_;clear S;intro a S
    refine d_quiet_g 13 S hsel rfl rfl rfl rfl hb2 rfl rfl (by kernel_rfl) (by kernel_rfl) rfl (fun _ hw => (rn_fld fa_53_0 (S.tm rfl))) ?_;clear S;intro a S
    refine d_quiet_g 14 S hsel rfl rfl rfl rfl hb2 rfl rfl (by kernel_rfl) (by kernel_rfl) rfl (fun _ hw => (rn_ld Tryz.isAgg3 (off := 0) (o := 0) (S.tm rfl) ((S.blk_mem (i := 0) (cells := (GDate.enc V)) (b := b1) (T := 53) rfl (ne_nil (e' := .blk b1 (GDate.enc V) 53))).kept hw) rfl)) ?_;clear S;intro a S
    refine d_quiet_g 15 S hsel rfl rfl rfl rfl hb2 rfl rfl (by kernel_rfl) (by kernel_rfl) rfl (fun _ hw => (rn_fld fa_53_1 (S.tm rfl))) ?_;clear S;intro a S
    refine d_quiet_g 16 S hsel rfl rfl rfl rfl hb2 rfl rfl (by kernel_rfl) (by kernel_rfl) rfl (fun _ hw => (rn_ld Tryz.isAgg3 (off := 0) (o := 1) (S.tm rfl) ((S.blk_mem (i := 0) (cells := (GDate.enc V)) (b := b1) (T := 53) rfl (ne_nil (e' := .blk b1 (GDate.enc V) 53))).kept hw) rfl)) ?_;clear S;intro a S
    refine d_loud1 17 (by kernel_rfl) rfl (l_want S rfl rfl rfl hb2 (l_enter S (fun _ => run_call (vs := [iV V.Year, iV V.Month]) ⟨(S.tm rfl), (S.tm rfl), trivial⟩ Tryz.call55) (tumbref2_monthLong_ok _ V.Year V.Month _ hr1) rfl ?_));clear S;intro v9 a w13 hv9 hk12 hn9 S
    subst hv9
    refine Ld (d_next hk12 (d_loud1 18 (by kernel_rfl) rfl (l_want S rfl rfl rfl hb2 (l_enter S (fun _ => run_call (vs := [iV V.Day, iV 1, iV r1]) ⟨(S.tm rfl), rfl, (S.tm rfl), trivial⟩ Tryz.call27) (tumbref2_in_ok _ V.Day 1 r1 _ rfl) rfl ?_))));clear S;intro v10 a w14 hv10 hk13 hn10 S
    subst hv10
    refine Ld (d_next hk13 (d_rest [19, 20] hsel (by kernel_rfl) rfl ?_))
    clear hsel
    refine s_want S rfl rfl rfl rfl hb2 (s_lv0 S (rn_not (S.tm rfl)) rfl ?_);clear S;intro a S
    refine s_lv S rfl (rn_pick_c hb2 (S.tm rfl) (S.tm rfl)) rfl ?_;clear S;intro a S
    refine s_done ?_
    replace S := S.nk [.blk b1 (GDate.enc V) 53] [(1, .pointer (some ⟨b1, 0, none⟩)), (27, bV (!(tumbref2_in V.Day 1 r1)))] [true] rfl (subR rfl)
    refine Tn ?_
    exact ⟨!(tumbref2_in V.Day 1 r1), h, S.nf [true] rfl (subR rfl)⟩
  ·replace h := iteF h hb1
   rcases Bool.eq_false_or_eq_true (!(tumbref2_in V.Month 1 12)) with hb3 | hb3
   ·replace h := iteT h hb3
    refine d_region [] ([]) Tryz.mixed S rfl (by kernel_rfl) ?_;clear S;intro w19 hk18 hsel S
    refine d_quiet 0 S hsel rfl rfl rfl (by kernel_rfl) (by kernel_rfl) rfl (fun _ hw => (rn_fld fa_53_0 (S.tm rfl))) ?_;clear S;intro a S
    refine d_quiet 1 S hsel rfl rfl rfl (by kernel_rfl) (by kernel_rfl) rfl (fun _ hw => (rn_ld Tryz.isAgg3 (off := 0) (o := 0) (S.tm rfl) ((S.blk_mem (i := 0) (cells := (GDate.enc V)) (b := b1) (T := 53) rfl (ne_nil (e' := .blk b1 (GDate.enc V) 53))).kept hw) rfl)) ?_;clear S;intro a S
    refine d_loud1 2 (by kernel_rfl) rfl (l_enter S (fun _ => run_call (vs := [iV V.Year, iV 1914, iV 2036]) ⟨(S.tm rfl), rfl, rfl, trivial⟩ Tryz.call27) (tumbref2_in_ok _ V.Year 1914 2036 _ rfl) rfl ?_);clear S;intro v15 a w20 hv15 hk19 hn15 S
    subst hv15
    refine Ld (d_next hk19 (d_quiet 3 S hsel rfl rfl rfl (by kernel_rfl) (by kernel_rfl) rfl (fun _ hw => (rn_not (S.tm rfl))) ?_));clear S;intro a S
    refine d_quiet 4 S hsel rfl rfl rfl (by kernel_rfl) (by kernel_rfl) rfl (fun _ hw => (Rm (S.tm rfl))) ?_;clear S;intro a S
    refine d_quiet_g 5 S hsel rfl rfl rfl rfl hb1 rfl rfl (by kernel_rfl) (by kernel_rfl) rfl (fun _ hw => (rn_fld fa_53_1 (S.tm rfl))) ?_;clear S;intro a S
    refine d_quiet_g 6 S hsel rfl rfl rfl rfl hb1 rfl rfl (by kernel_rfl) (by kernel_rfl) rfl (fun _ hw => (rn_ld Tryz.isAgg3 (off := 0) (o := 1) (S.tm rfl) ((S.blk_mem (i := 0) (cells := (GDate.enc V)) (b := b1) (T := 53) rfl (ne_nil (e' := .blk b1 (GDate.enc V) 53))).kept hw) rfl)) ?_;clear S;intro a S
    refine d_loud1 7 (by kernel_rfl) rfl (l_want S rfl rfl rfl hb1 (l_enter S (fun _ => run_call (vs := [iV V.Month, iV 1, iV 12]) ⟨(S.tm rfl), rfl, rfl, trivial⟩ Tryz.call27) (tumbref2_in_ok _ V.Month 1 12 _ rfl) rfl ?_));clear S;intro v16 a w21 hv16 hk20 hn16 S
    subst hv16
    refine Ld (d_next hk20 (d_rest [8, 9, 10, 11, 12, 13, 14, 15, 16, 17, 18, 19, 20] hsel (by kernel_rfl) rfl ?_))
    clear hsel
    refine s_want S rfl rfl rfl rfl hb1 (s_lv0 S (rn_not (S.tm rfl)) rfl ?_);clear S;intro a S
    refine s_lv S rfl (rn_pick_c hb1 (S.tm rfl) (S.tm rfl)) rfl ?_;clear S;intro a S
    refine s_lv S rfl (Rm (S.tm rfl)) rfl ?_;clear S;intro a S
    iterate 9 (refine s_skip S rfl rfl rfl rfl (neq_t hb3) rfl ?_ rfl;clear S;intro a S)
    refine s_lv S rfl (rn_pick_b hb3 (S.tm rfl) rfl) rfl ?_;clear S;intro a S
    refine s_done ?_
    replace S := S.nk [.blk b1 (GDate.enc V) 53] [(1, .pointer (some ⟨b1, 0, none⟩)), (27, bV true)] [true] rfl (subR rfl)
    refine Tn ?_
    exact ⟨true, h, S.nf [true] rfl (subR rfl)⟩
   ·replace h := iteF h hb3
    obtain ⟨r2, hr2, h⟩ := bindE h
    refine d_region [] ([]) Tryz.mixed S rfl (by kernel_rfl) ?_;clear S;intro w26 hk25 hsel S
    refine d_quiet 0 S hsel rfl rfl rfl (by kernel_rfl) (by kernel_rfl) rfl (fun _ hw => (rn_fld fa_53_0 (S.tm rfl))) ?_;clear S;intro a S
    refine d_quiet 1 S hsel rfl rfl rfl (by kernel_rfl) (by kernel_rfl) rfl (fun _ hw => (rn_ld Tryz.isAgg3 (off := 0) (o := 0) (S.tm rfl) ((S.blk_mem (i := 0) (cells := (GDate.enc V)) (b := b1) (T := 53) rfl (ne_nil (e' := .blk b1 (GDate.enc V) 53))).kept hw) rfl)) ?_;clear S;intro a S
    refine d_loud1 2 (by kernel_rfl) rfl (l_enter S (fun _ => run_call (vs := [iV V.Year, iV 1914, iV 2036]) ⟨(S.tm rfl), rfl, rfl, trivial⟩ Tryz.call27) (tumbref2_in_ok _ V.Year 1914 2036 _ rfl) rfl ?_);clear S;intro v21 a w27 hv21 hk26 hn21 S
    subst hv21
    refine Ld (d_next hk26 (d_quiet 3 S hsel rfl rfl rfl (by kernel_rfl) (by kernel_rfl) rfl (fun _ hw => (rn_not (S.tm rfl))) ?_));clear S;intro a S
    refine d_quiet 4 S hsel rfl rfl rfl (by kernel_rfl) (by kernel_rfl) rfl (fun _ hw => (Rm (S.tm rfl))) ?_;clear S;intro a S
    refine d_quiet_g 5 S hsel rfl rfl rfl rfl hb1 rfl rfl (by kernel_rfl) (by kernel_rfl) rfl (fun _ hw => (rn_fld fa_53_1 (S.tm rfl))) ?_;clear S;intro a S
    refine d_quiet_g 6 S hsel rfl rfl rfl rfl hb1 rfl rfl (by kernel_rfl) (by kernel_rfl) rfl (fun _ hw => (rn_ld Tryz.isAgg3 (off := 0) (o := 1) (S.tm rfl) ((S.blk_mem (i := 0) (cells := (GDate.enc V)) (b := b1) (T := 53) rfl (ne_nil (e' := .blk b1 (GDate.enc V) 53))).kept hw) rfl)) ?_;clear S;intro a S
    refine d_loud1 7 (by kernel_rfl) rfl (l_want S rfl rfl rfl hb1 (l_enter S (fun _ => run_call (vs := [iV V.Month, iV 1, iV 12]) ⟨(S.tm rfl), rfl, rfl, trivial⟩ Tryz.call27) (tumbref2_in_ok _ V.Month 1 12 _ rfl) rfl ?_));clear S;intro v22 a w28 hv22 hk27 hn22 S
    subst hv22
    refine Ld (d_next hk27 (d_quiet_g 8 S hsel rfl rfl rfl rfl hb1 rfl rfl (by kernel_rfl) (by kernel_rfl) rfl (fun _ hw => (rn_not (S.tm rfl))) ?_));clear S;intro a S
    refine d_quiet 9 S hsel rfl rfl rfl (by kernel_rfl) (by kernel_rfl) rfl (fun _ hw => (rn_pick_c hb1 (S.tm rfl) (S.tm rfl))) ?_;clear S;intro a S
    refine d_quiet 10 S hsel rfl rfl rfl (by kernel_rfl) (by kernel_rfl) rfl (fun _ hw => (Rm (S.tm rfl))) ?_;clear S;intro a S
    refine d_quiet_g 11 S hsel rfl rfl rfl rfl hb3 rfl rfl (by kernel_rfl) (by kernel_rfl) rfl (fun _ hw => (rn_fld fa_53_2 (S.tm rfl))) ?_;clear S;intro a S
    refine d_quiet_g 12 S hsel rfl rfl rfl rfl hb3 rfl rfl (by kernel_rfl) (by kernel_rfl) rfl (fun _ hw => (rn_ld Tryz.isAgg3 (off := 0) (o := 2) (S.tm rfl) ((S.blk_mem (i := 0) (cells := (GDate.enc V)) (b := b1) (T := 53) rfl (ne_nil (e' := .blk b1 (GDate.enc V) 53))).kept hw) rfl)) ?_;clear S;intro a S
    refine d_quiet_g 13 S hsel rfl rfl rfl rfl hb3 rfl rfl (by kernel_rfl) (by kernel_rfl) rfl (fun _ hw => (rn_fld fa_53_0 (S.tm rfl))) ?_;clear S;intro a S
    refine d_quiet_g 14 S hsel rfl rfl rfl rfl hb3 rfl rfl (by kernel_rfl) (by kernel_rfl) rfl (fun _ hw => (rn_ld Tryz.isAgg3 (off := 0) (o := 0) (S.tm rfl) ((S.blk_mem (i := 0) (cells := (GDate.enc V)) (b := b1) (T := 53) rfl (ne_nil (e' := .blk b1 (GDate.enc V) 53))).kept hw) rfl)) ?_;clear S;intro a S
    refine d_quiet_g 15 S hsel rfl rfl rfl rfl hb3 rfl rfl (by kernel_rfl) (by kernel_rfl) rfl (fun _ hw => (rn_fld fa_53_1 (S.tm rfl))) ?_;clear S;intro a S
    refine d_quiet_g 16 S hsel rfl rfl rfl rfl hb3 rfl rfl (by kernel_rfl) (by kernel_rfl) rfl (fun _ hw => (rn_ld Tryz.isAgg3 (off := 0) (o := 1) (S.tm rfl) ((S.blk_mem (i := 0) (cells := (GDate.enc V)) (b := b1) (T := 53) rfl (ne_nil (e' := .blk b1 (GDate.enc V) 53))).kept hw) rfl)) ?_;clear S;intro a S
    refine d_loud1 17 (by kernel_rfl) rfl (l_want S rfl rfl rfl hb3 (l_enter S (fun _ => run_call (vs := [iV V.Year, iV V.Month]) ⟨(S.tm rfl), (S.tm rfl), trivial⟩ Tryz.call55) (tumbref2_monthLong_ok _ V.Year V.Month _ hr2) rfl ?_));clear S;intro v23 a w29 hv23 hk28 hn23 S
    subst hv23
    refine Ld (d_next hk28 (d_loud1 18 (by kernel_rfl) rfl (l_want S rfl rfl rfl hb3 (l_enter S (fun _ => run_call (vs := [iV V.Day, iV 1, iV r2]) ⟨(S.tm rfl), rfl, (S.tm rfl), trivial⟩ Tryz.call27) (tumbref2_in_ok _ V.Day 1 r2 _ rfl) rfl ?_))));clear S;intro v24 a w30 hv24 hk29 hn24 S
    subst hv24
    refine Ld (d_next hk29 (d_rest [19, 20] hsel (by kernel_rfl) rfl ?_))
    clear hsel
    refine s_want S rfl rfl rfl rfl hb3 (s_lv0 S (rn_not (S.tm rfl)) rfl ?_);clear S;intro a S
    refine s_lv S rfl (rn_pick_c hb3 (S.tm rfl) (S.tm rfl)) rfl ?_;clear S;intro a S
    refine s_done ?_
    replace S := S.nk [.blk b1 (GDate.enc V) 53] [(1, .pointer (some ⟨b1, 0, none⟩)), (27, bV (!(tumbref2_in V.Day 1 r2)))] [true] rfl (subR rfl)
    refine Tn ?_
    exact ⟨!(tumbref2_in V.Day 1 r2), h, S.nf [true] rfl (subR rfl)⟩
 clear S h;rintro a w2 ⟨x1, h, S⟩;rw [hj1] at h;clear hj1 j1
 refine Tn (f_cond (S.tm rfl) (fun hb4 => ?_) (fun hb4 => ?_))
 ·replace h := iteT h hb4
  refine Fs (Fg (lv S (Ra rfl) rfl ?_));clear S;intro a S
  refine lv S (Ra rfl) rfl ?_;clear S;intro a S
  refine Ld (Tn (wp_ret (then_r ?_)))
  obtain rfl := Option.some.inj h
  exact f_ret2 S Tryz.results42 rfl rfl rfl
 ·replace h := iteF h hb4
  refine wp_skip (Tn (Fs (Fg (lv S (Ra rfl) rfl ?_))));clear S;intro a S
  refine lv S (Ra rfl) rfl ?_;clear S;intro a S
  refine Ld (Tn (Fs ?_))
  replace S := S.nk [.blk b1 (GDate.enc V) 53] [(1, .pointer (some ⟨b1, 0, none⟩)), (4, iV (-40000)), (5, iV 4000)] [true] rfl (subR rfl)
  obtain ⟨j2, hj2, h⟩ := joinE h
  refine f_join (fun a w' => ∃ x2 : Int, j2 x2 = some r ∧ Sx w [] nov [.blk b1 (GDate.enc V) 53] [(1, .pointer (some ⟨b1, 0, none⟩)), (4, iV x2)] 50 a w') ?_ ?_
  ·refine wp_block (f_loop (fun (m1 : Nat) a w' => ∃ x2 : Int, ∃ x3 : Int, tumbref2_DayFor_l1 V j2 m1 x2 x3 = some r ∧ Sx w [] nov [.blk b1 (GDate.enc V) 53] [(1, .pointer (some ⟨b1, 0, none⟩)), (4, iV x2), (5, iV x3)] 50 a w') id 44002 ⟨(-40000), 4000, h, S.nf [true] rfl (subR rfl)⟩ ?_)
   clear S h;rintro m1 a w31 ⟨x2, x3, h, S⟩
   cases m1 with
   | zero => rw [tumbref2_DayFor_l1.eq_1] at h;cases h
   | succ m1 =>
    rw [tumbref2_DayFor_l1.eq_2] at h
    refine Fs (Fs (Fg (lv S (Rm (S.tm rfl)) rfl ?_)));clear S;intro a S
    refine lv S (Rm (S.tm rfl)) rfl ?_;clear S;intro a S
    refine lv S (rn_lss (S.tm rfl) (S.tm rfl)) rfl ?_;clear S;intro a S
    refine Ld (Tn (f_cond (S.tm rfl) (fun hb5 => ?_) (fun hb5 => ?_)))
    ·replace h := iteT h hb5
     refine wp_skip (Tn ?_)
     obtain ⟨j3, hj3, h⟩ := joinE h
     refine f_join (fun a w' => ∃ x4 : Int, ∃ x5 : Int, j3 x4 x5 = some r ∧ Sx w [] nov [.blk b1 (GDate.enc V) 53] [(1, .pointer (some ⟨b1, 0, none⟩)), (4, iV x4), (5, iV x5)] 50 a w') ?_ ?_
     ·refine wp_block (Fs (Fg (lv S (Rm (S.tm rfl)) rfl ?_)));clear S;intro a S
      refine lv S (Rm (S.tm rfl)) rfl ?_;clear S;intro a S
      refine lv S (Rm (S.tm rfl)) rfl ?_;clear S;intro a S
      refine lv S (rn_sub (S.tm rfl) (S.tm rfl)) rfl ?_;clear S;intro a S
      refine lv S (rn_quo (S.tm rfl) rfl (by decide)) rfl ?_;clear S;intro a S
      refine lv S (rn_add (S.tm rfl) (S.tm rfl)) rfl ?_;clear S;intro a S
      refine lv S (Ra (S.tm rfl)) rfl ?_;clear S;intro a S
      refine Ld (Tn (Fs ?_))
      obtain ⟨r3, hr3, h⟩ := bindE h
      obtain ⟨r4, hr4, h⟩ := bindE h
      refine d_region [] ([]) Tryz.mixed S rfl (by kernel_rfl) ?_;clear S;intro w36 hk32 hsel S
      refine d_quiet 0 S hsel rfl rfl rfl (by kernel_rfl) (by kernel_rfl) rfl (fun _ hw => (Rm (S.tm rfl))) ?_;clear S;intro a S
      refine d_quiet 2 S hsel rfl rfl rfl (by kernel_rfl) (by kernel_rfl) rfl (fun _ hw => (rn_ldA Tryz.isAgg53 Tryz.sizeOf53 (off := 0) (o := 0) (part := (GDate.enc V)) rfl rfl (S.tm rfl) ((S.blk_mem (i := 0) (cells := (GDate.enc V)) (b := b1) (T := 53) rfl (ne_nil (e' := .blk b1 (GDate.enc V) 53))).kept hw))) ?_;clear S;intro a S
      refine d_loud1 1 (by kernel_rfl) rfl (l_enter S (fun _ => run_call (vs := [iV (W (x2 + (W (Int.tdiv (W (x3 - x2)) 2))))]) ⟨(S.tm rfl), trivial⟩ Tryz.call29) (tumbref2_DateFor_ok _ (W (x2 + (W (Int.tdiv (W (x3 - x2)) 2)))) _ hr3) rfl ?_);clear S;intro v27 a w37 hv27 hk33 hn27 S
      subst hv27
      refine Ld (d_next hk33 (d_loud1 3 (by kernel_rfl) rfl (l_enter S (fun _ => run_call (vs := [.agg (GDate.enc r3).toArray, .agg (GDate.enc V).toArray]) ⟨(S.tm rfl), (S.tm rfl), trivial⟩ Tryz.call64) (tumbref2_dateOrder_ok _ r3 V _ hr4) rfl ?_)));clear S;intro v28 a w38 hv28 hk34 hn28 S
      subst hv28
      refine Ld (d_next hk34 (d_rest [4] hsel (by kernel_rfl) rfl ?_))
      clear hsel
      refine s_lv S rfl (rn_geq (S.tm rfl) rfl) rfl ?_;clear S;intro a S
      refine s_done ?_
      replace S := S.nk [.blk b1 (GDate.enc V) 53] [(1, .pointer (some ⟨b1, 0, none⟩)), (4, iV x2), (5, iV x3), (6, iV (W (x2 + (W (Int.tdiv (W (x3 - x2)) 2))))), (41, bV (decide (0 ≤ r4)))] [true] rfl (subR rfl)
      refine Tn ?_
      obtain ⟨j4, hj4, h⟩ := joinE h
      refine f_join (fun a w' => ∃ x6 : Int, ∃ x7 : Int, j4 x6 x7 = some r ∧ Sx w [] nov [.blk b1 (GDate.enc V) 53] [(1, .pointer (some ⟨b1, 0, none⟩)), (4, iV x6), (5, iV x7)] 50 a w') ?_ ?_
      ·refine f_cond (S.tm rfl) (fun hb6 => ?_) (fun hb6 => ?_)
       ·replace h := iteT h hb6
        refine Fg (lv S (Rm (S.tm rfl)) rfl ?_);clear S;intro a S
        refine lv S (Ra (S.tm rfl)) rfl ?_;clear S;intro a S
        refine Ld (Tn ?_)
        exact ⟨x2, W (x2 + (W (Int.tdiv (W (x3 - x2)) 2))), h, S.nf [true] rfl (subR rfl)⟩
       ·replace h := iteF h hb6
        refine Fg (lv S (Rm (S.tm rfl)) rfl ?_);clear S;intro a S
        refine lv S (rn_add (S.tm rfl) rfl) rfl ?_;clear S;intro a S
        refine lv S (Ra (S.tm rfl)) rfl ?_;clear S;intro a S
        refine Ld (Tn ?_)
        exact ⟨W ((W (x2 + (W (Int.tdiv (W (x3 - x2)) 2)))) + 1), x3, h, S.nf [true] rfl (subR rfl)⟩
      clear S h;rintro a w39 ⟨x6, x7, h, S⟩;rw [hj4] at h;clear hj4 j4
      refine blk_n (Tn ?_)
      exact ⟨x6, x7, h, S.nf [true] rfl (subR rfl)⟩
     clear S h;rintro a w33 ⟨x4, x5, h, S⟩;rw [hj3] at h;clear hj3 j3
     refine Tn ?_
     exact ⟨m1, ⟨x4, x5, h, S.nf [true] rfl ⟨rfl, rfl, rfl, trivial⟩⟩, Nat.lt_succ_self _⟩
    ·replace h := iteF h hb5
     refine wp_exit (then_x (then_x (x_same (Tn ?_))))
     exact ⟨x2, h, S.nf [true] rfl (subR rfl)⟩
  clear S h;rintro a w32 ⟨x2, h, S⟩;rw [hj2] at h;clear hj2 j2
  refine Tn (Fs (Fs ?_))
  obtain ⟨r5, hr5, h⟩ := bindE h
  refine d_region [] ([]) Tryz.mixed S rfl (by kernel_rfl) ?_;clear S;intro w41 hk36 hsel S
  refine d_quiet 0 S hsel rfl rfl rfl (by kernel_rfl) (by kernel_rfl) rfl (fun _ hw => (Rm (S.tm rfl))) ?_;clear S;intro a S
  refine d_quiet 2 S hsel rfl rfl rfl (by kernel_rfl) (by kernel_rfl) rfl (fun _ hw => (rn_ldA Tryz.isAgg53 Tryz.sizeOf53 (off := 0) (o := 0) (part := (GDate.enc V)) rfl rfl (S.tm rfl) ((S.blk_mem (i := 0) (cells := (GDate.enc V)) (b := b1) (T := 53) rfl (ne_nil (e' := .blk b1 (GDate.enc V) 53))).kept hw))) ?_;clear S;intro a S
  refine d_loud1 1 (by kernel_rfl) rfl (l_enter S (fun _ => run_call (vs := [iV x2]) ⟨(S.tm rfl), trivial⟩ Tryz.call29) (tumbref2_DateFor_ok _ x2 _ hr5) rfl ?_);clear S;intro v30 a w42 hv30 hk37 hn30 S
  subst hv30
  refine Ld (d_next hk37 (d_rest [3] hsel (by kernel_rfl) rfl ?_))
  clear hsel
  refine s_lv S rfl (rn_neq_53 (m := r5) (n := V) (S.tm rfl) (S.tm rfl)) rfl ?_;clear S;intro a S
  refine s_done ?_
  replace S := S.nk [] [(4, iV x2), (48, bV (!decide (r5 = V)))] [false] rfl (subR rfl)
  refine Tn (f_cond (S.tm rfl) (fun hb7 => ?_) (fun hb7 => ?_))
  ·replace h := iteT h hb7
   refine Fs (Fg (lv S (Ra rfl) rfl ?_));clear S;intro a S
   refine lv S (Ra rfl) rfl ?_;clear S;intro a S
   refine Ld (Tn (wp_ret (then_r ?_)))
   obtain rfl := Option.some.inj h
   exact f_ret2 S Tryz.results42 rfl rfl rfl
  ·replace h := iteF h hb7
   refine wp_skip (Tn (Fs (Fg (lv S (Rm (S.tm rfl)) rfl ?_))));clear S;intro a S
   refine lv S (Ra (S.tm rfl)) rfl ?_;clear S;intro a S
   refine lv S (Ra rfl) rfl ?_;clear S;intro a S
   refine Ld (Tn (wp_ret ?_))
   obtain rfl := Option.some.inj h
   exact f_ret2 S Tryz.results42 rfl rfl rfl
theorem strings_Index_ok (w : World) (s : ByteArray) (sub : ByteArray) (hg_maxlen : GlobI (view w []) 0) (r : Int) (h : strings_Index s sub = some r) : Calls Tryz.prog 43 [sV s, sV sub].toArray w (Ret w [] fun _ v _ => v = .int .i64 r) := by
  unfold strings_Index at h
  obtain ⟨hc, h⟩ := chkE h
  simp only [Bool.and_eq_true, decide_eq_true_eq] at hc
  obtain rfl := Option.some.inj h
  exact index_ret { Tryz.lays143 with } s sub w hg_maxlen hc
set_option maxHeartbeats 8000000 in
set_option maxRecDepth 20000 in
theorem tumbref2_SwimmersRead_c1_ok (w : World) (X : List Nat) (At : ByteArray) (Ab : Nat) (Aa : Value) (Ag : List GSwimmer) (Bq : (LEnt.own Aa 38 3 Ag.length (Ag.flatMap GSwimmer.enc)).holds w) (Br : (LEnt.blk Ab [Aa] 26).holds w) (hg_maxlen : GlobI (view w X) 0) (hXn : X.Nodup) (hXe : X = fps [.blk Ab [Aa] 26, .own Aa 38 3 Ag.length (Ag.flatMap GSwimmer.enc)]) (r : Bool × (List GSwimmer)) (h : tumbref2_SwimmersRead_c1 At Ag = some r) :
    Calls Tryz.prog 37 [sV At, .pointer (some ⟨Ab, 0, none⟩)].toArray w (Ret w X fun _ v w' => ∃ y1 : Value, Grp w w' X [.blk Ab [y1] 26, .own y1 38 3 r.2.length (r.2.flatMap GSwimmer.enc)] ∧ v = bV r.1) := by
 refine f_enter X [.blk Ab [Aa] 26, .own Aa 38 3 Ag.length (Ag.flatMap GSwimmer.enc)] Tryz.func37 rfl Tryz.ntmps37 rfl (fun e he => by simp only [List.mem_cons, List.not_mem_nil, or_false] at he;rcases he with rfl | rfl <;> assumption) (by rw [← hXe];exact hXn) (fun b hb => by rw [hXe];exact hb) fun a S => ?_
 unfold tumbref2_SwimmersRead_c1 at h
 replace S := S.nk [.blk Ab [Aa] 26, .own Aa 38 3 Ag.length (Ag.flatMap GSwimmer.enc)] [(0, sV At), (1, .pointer (some ⟨Ab, 0, none⟩))] [true, true] rfl (subR rfl)
 refine Fs (Fg (lv S (Ra rfl) rfl ?_));clear S;intro a S
 refine Ld (Tn (Fs (Fg (lv S (Rm (S.tm rfl)) rfl ?_))));clear S;intro a S
 obtain ⟨r1, hr1, h⟩ := bindE h
 have hz1 := S.keep.size
 refine l_enter S (fun _ => run_call (vs := [sV At]) ⟨(S.tm rfl), trivial⟩ Tryz.call38) (tumbref2_Words_ok _ At (hg_maxlen.mono (S.le_arg nil_sub)) _ hr1) rfl ?_;clear S;intro v1 a w1 hv1 hk1 hn1 S
 obtain ⟨u1, rfl, ho1⟩ := hv1
 obtain ⟨φ1, hl1, hm1, S⟩ := S.see' hn1 hz1
 have hs1 := ho1.mono hm1
 refine lv S (Rm (S.tm rfl)) rfl ?_;clear S;intro a S
 refine lv S (rn_extract (S.tm rfl) rfl) rfl ?_;clear S;intro a S
 refine lv S (rn_extract (S.tm rfl) rfl) rfl ?_;clear S;intro a S
 refine lv S (Ra (S.tm rfl)) rfl ?_;clear S;intro a S
 refine lv S (Ra (S.tm rfl)) rfl ?_;clear S;intro a S
 refine Ld (Tn (Fs (Fs (Fg (lv S (Rm (S.tm rfl)) rfl ?_)))));clear S;intro a S
 refine lv S (rn_not (S.tm rfl)) rfl ?_;clear S;intro a S
 refine lv S (Rm (S.tm rfl)) rfl ?_;clear S;intro a S
 refine f_cutm 4 (fun a w' => Keep [] w1 w' ∧ Sx w X φ1 [.blk Ab [Aa] 26, .own Aa 38 3 Ag.length (Ag.flatMap GSwimmer.enc)] [(1, .pointer (some ⟨Ab, 0, none⟩)), (4, u1), (26, bV ((!r1.2) || (!decide ((r1.1.length : Int) = 3))))] 125 a w') ?_ ?_
 ·rcases Bool.eq_false_or_eq_true (!r1.2) with hb1 | hb1
  ·iterate 3 (refine l_skip S rfl rfl rfl (neq_t hb1) rfl ?_ rfl;clear S;intro a S)
   refine lv S (rn_or_t (!decide ((r1.1.length : Int) = 3)) hb1 (S.tm rfl) rfl) rfl ?_;clear S;intro a S
   refine Ld (Tn ?_)
   exact ⟨Keep.refl _ _, S.nf [true, true] rfl (subR rfl)⟩
  ·refine l_want S rfl rfl rfl hb1 (lv S (Rm (S.tm rfl)) rfl ?_);clear S;intro a S
   refine l_want S rfl rfl rfl hb1 (lv S (rn_lenT sl_65 (S.tm rfl) (slc_len (ownV_slcT enc_str hs1))) rfl ?_);clear S;intro a S
   refine l_want S rfl rfl rfl hb1 (lv S (rn_neq (S.tm rfl) rfl) rfl ?_);clear S;intro a S
   refine lv S (rn_or_f hb1 (S.tm rfl) (S.tm rfl)) rfl ?_;clear S;intro a S
   refine Ld (Tn ?_)
   exact ⟨Keep.refl _ _, S.nf [true, true] rfl (subR rfl)⟩
 clear S;rintro a w2 ⟨hk2, S⟩
 refine lv S (Rm (S.tm rfl)) rfl ?_;clear S;intro a S
 obtain ⟨j1, hj1, h⟩ := joinE h
 refine f_cutm 11 (fun a w' => ∃ c1, j1 c1 = some r ∧ Keep [] w2 w' ∧ Sx w X φ1 [.blk Ab [Aa] 26, .own Aa 38 3 Ag.length (Ag.flatMap GSwimmer.enc)] [(1, .pointer (some ⟨Ab, 0, none⟩)), (4, u1), (38, bV c1)] 125 a w') ?_ ?_
 ·rcases Bool.eq_false_or_eq_true ((!r1.2) || (!decide ((r1.1.length : Int) = 3))) with hb2 | hb2
  ·replace h := iteT h hb2
   iterate 5 (refine l_skip S rfl rfl rfl (neq_t hb2) rfl ?_ rfl;clear S;intro a S)
   iterate 4 (refine l_skipU S rfl rfl rfl rfl ?_;clear S;intro a S)
   refine l_skip S rfl rfl rfl (neq_t hb2) rfl ?_ rfl;clear S;intro a S
   refine lv S (rn_or_t true hb2 (S.tm rfl) rfl) rfl ?_;clear S;intro a S
   refine Ld (Tn ?_)
   exact ⟨_, h, Keep.refl _ _, S.nf [true, true] rfl (subR rfl)⟩
  ·replace h := iteF h hb2
   refine l_want S rfl rfl rfl hb2 (lv S (Rm (S.tm rfl)) rfl ?_);clear S;intro a S
   refine l_want S rfl rfl rfl hb2 ?_
   obtain ⟨hc1, h⟩ := chkE h
   obtain ⟨b1, o1, hm2, hr2⟩ := rn_indexT (a := a) (x := .tmp 28) (y := .const (iV 1)) (ty := 0) sl_65 (ownV_slcT enc_str hs1) (inB_get hc1).1 (inB_get hc1).2 (S.tm rfl) rfl
   refine lv S (hr2 _) rfl ?_;clear S;intro a S
   clear hr2
   refine l_want S rfl rfl rfl hb2 (lv S (rn_ld Tryz.isAgg9 (off := o1) (o := 0) (S.tm rfl) (hm2.at S.emb) rfl) rfl ?_);clear S;intro a S
   refine l_want S rfl rfl rfl hb2 (lv S (rn_sneq (S.tm rfl) rfl) rfl ?_);clear S;intro a S
   refine l_want S rfl rfl rfl hb2 (lv S (Rm (S.tm rfl)) rfl ?_);clear S;intro a S
   obtain ⟨j2, hj2, h⟩ := joinE h
   refine f_cutm 5 (fun a w' => ∃ c2, j2 c2 = some r ∧ Keep [] w2 w' ∧ Sx w X φ1 [.blk Ab [Aa] 26, .own Aa 38 3 Ag.length (Ag.flatMap GSwimmer.enc)] [(1, .pointer (some ⟨Ab, 0, none⟩)), (4, u1), (27, bV ((!r1.2) || (!decide ((r1.1.length : Int) = 3)))), (37, bV c2)] 125 a w') ?_ ?_
   ·rcases Bool.eq_false_or_eq_true (!decide ((nth r1.1 1) = k_f)) with hb3 | hb3
    ·replace h := iteT h hb3
     refine l_want S rfl rfl rfl hb3 (lv S (Rm (S.tm rfl)) rfl ?_);clear S;intro a S
     refine l_want S rfl rfl rfl hb3 ?_
     obtain ⟨hc2, h⟩ := chkE h
     obtain ⟨b2, o2, hm3, hr3⟩ := rn_indexT (a := a) (x := .tmp 33) (y := .const (iV 1)) (ty := 0) sl_65 (ownV_slcT enc_str hs1) (inB_get hc2).1 (inB_get hc2).2 (S.tm rfl) rfl
     refine lv S (hr3 _) rfl ?_;clear S;intro a S
     clear hr3
     refine l_want S rfl rfl rfl hb3 (lv S (rn_ld Tryz.isAgg9 (off := o2) (o := 0) (S.tm rfl) (hm3.at S.emb) rfl) rfl ?_);clear S;intro a S
     refine l_want S rfl rfl rfl hb3 (lv S (rn_sneq (S.tm rfl) rfl) rfl ?_);clear S;intro a S
     refine l_want S rfl rfl rfl hb2 (lv S (rn_and_t hb3 (S.tm rfl) (S.tm rfl)) rfl ?_);clear S;intro a S
     refine Ld (Tn ?_)
     exact ⟨_, h, Keep.refl _ _, S.nf [true, true] rfl (subR rfl)⟩
    ·replace h := iteF h hb3
     iterate 4 (refine l_skip S rfl rfl rfl (neq_f hb3) rfl ?_ rfl;clear S;intro a S)
     refine l_want S rfl rfl rfl hb2 (lv S (rn_and_f true hb3 (S.tm rfl) rfl) rfl ?_);clear S;intro a S
     refine Ld (Tn ?_)
     exact ⟨_, h, Keep.refl _ _, S.nf [true, true] rfl (subR rfl)⟩
   clear S h;rintro a w4 ⟨c2, h, hk3, S⟩;rw [hj2] at h;clear hj2 j2
   refine lv S (rn_or_f hb2 (S.tm rfl) (S.tm rfl)) rfl ?_;clear S;intro a S
   refine Ld (Tn ?_)
   exact ⟨_, h, hk3, S.nf [true, true] rfl (subR rfl)⟩
 clear S h;rintro a w3 ⟨c1, h, hk4, S⟩;rw [hj1] at h;clear hj1 j1
 refine Ld (Tn (f_cond (S.tm rfl) (fun hb4 => ?_) (fun hb4 => ?_)))
 ·replace h := iteT h hb4
  refine Fs (Fg (lv S (Ra rfl) rfl ?_));clear S;intro a S
  refine Ld (Tn (wp_ret (then_r ?_)))
  obtain rfl := Option.some.inj h
  exact f_ret S Tryz.results37 rfl ⟨Aa, S.grp [0, 1] [] rfl rfl rfl, rfl⟩
 ·replace h := iteF h hb4
  refine wp_skip (Tn (Fs (Fg (lv S (Rm (S.tm rfl)) rfl ?_))));clear S;intro a S
  obtain ⟨hc3, h⟩ := chkE h
  obtain ⟨b3, o3, hm4, hr4⟩ := rn_indexT (a := a) (x := .tmp 39) (y := .const (iV 2)) (ty := 0) sl_65 (ownV_slcT enc_str hs1) (inB_get hc3).1 (inB_get hc3).2 (S.tm rfl) rfl
  refine lv S (hr4 _) rfl ?_;clear S;intro a S
  clear hr4
  refine lv S (rn_ld Tryz.isAgg9 (off := o3) (o := 0) (S.tm rfl) (hm4.at S.emb) rfl) rfl ?_;clear S;intro a S
  obtain ⟨r2, hr5, h⟩ := bindE h
  have hz2 := S.keep.size
  refine l_enter S (fun _ => run_call (vs := [sV (nth r1.1 2), sV k__2d]) ⟨(S.tm rfl), rfl, trivial⟩ Tryz.call39) (strings_Split_ok _ (nth r1.1 2) k__2d (hg_maxlen.mono (S.le_arg nil_sub)) _ hr5) rfl ?_;clear S;intro v2 a w5 hv2 hk5 hn2 S
  obtain ⟨φ2, hl2, hm5, S⟩ := S.see' hn2 hz2
  have hs2 := hv2.mono hm5
  refine lv S (Ra (S.tm rfl)) rfl ?_;clear S;intro a S
  refine Ld (Tn (Fs (Fs ?_)))
  obtain ⟨j3, hj3, h⟩ := joinE h
  refine f_join (fun a w' => ∃ x1 : Bool, j3 x1 = some r ∧ Sx w X φ2 [.blk Ab [Aa] 26, .own Aa 38 3 Ag.length (Ag.flatMap GSwimmer.enc)] [(1, .pointer (some ⟨Ab, 0, none⟩)), (4, u1), (6, v2), (81, bV x1)] 125 a w') ?_ ?_
  ·rcases Bool.eq_false_or_eq_true (!decide ((r2.length : Int) = 3)) with hb5 | hb5
   ·replace h := iteT h hb5
    rcases Bool.eq_false_or_eq_true true with hb6 | hb6
    ·replace h := iteT h hb6
     rcases Bool.eq_false_or_eq_true true with hb7 | hb7
     ·replace h := iteT h hb7
      rcases Bool.eq_false_or_eq_true true with hb8 | hb8
      ·replace h := iteT h hb8
       refine d_region [] ([]) Tryz.mixed S rfl (by kernel_rfl) ?_;clear S;intro w7 hk6 hsel S
       refine d_rest [0, 1, 2, 3, 4, 5, 6, 7, 8, 9, 10, 11, 12, 13, 14, 15, 16, 17, 18, 19, 20, 21, 22, 23, 24, 25, 26, 27, 28, 29, 30, 31, 32, 33, 34, 35, 36, 37, 38] hsel (by kernel_rfl) rfl ?_
       clear hsel
       refine s_lv S rfl (Rm (S.tm rfl)) rfl ?_;clear S;intro a S
       refine s_lv S rfl (rn_lenT sl_65 (S.tm rfl) (slc_len (ownV_slcT enc_str hs2))) rfl ?_;clear S;intro a S
       refine s_lv S rfl (rn_neq (S.tm rfl) rfl) rfl ?_;clear S;intro a S
       refine s_lv S rfl (Rm (S.tm rfl)) rfl ?_;clear S;intro a S
       iterate 5 (refine s_skip S rfl rfl rfl rfl (neq_t hb5) rfl ?_ rfl;clear S;intro a S)
       refine s_lv S rfl (rn_pick_b hb5 (S.tm rfl) rfl) rfl ?_;clear S;intro a S
       refine s_lv S rfl (Rm (S.tm rfl)) rfl ?_;clear S;intro a S
       iterate 5 (refine s_skip S rfl rfl rfl rfl (neq_t hb6) rfl ?_ rfl;clear S;intro a S)
       refine s_lv S rfl (rn_pick_b hb6 (S.tm rfl) rfl) rfl ?_;clear S;intro a S
       refine s_lv S rfl (Rm (S.tm rfl)) rfl ?_;clear S;intro a S
       iterate 5 (refine s_skip S rfl rfl rfl rfl (neq_t hb7) rfl ?_ rfl;clear S;intro a S)
       refine s_lv S rfl (rn_pick_b hb7 (S.tm rfl) rfl) rfl ?_;clear S;intro a S
       refine s_lv S rfl (Rm (S.tm rfl)) rfl ?_;clear S;intro a S
       iterate 13 (refine s_skip S rfl rfl rfl rfl (neq_t hb8) rfl ?_ rfl;clear S;intro a S)
       refine s_lv S rfl (rn_pick_b hb8 (S.tm rfl) rfl) rfl ?_;clear S;intro a S
       refine s_done ?_
       replace S := S.nk [.blk Ab [Aa] 26, .own Aa 38 3 Ag.length (Ag.flatMap GSwimmer.enc)] [(1, .pointer (some ⟨Ab, 0, none⟩)), (4, u1), (6, v2), (81, bV true)] [true, true] rfl (subR rfl)
       refine Tn ?_
       exact ⟨true, h, S.nf [true, true] rfl (subR rfl)⟩
      ·replace h := iteF h hb8
       obtain ⟨hc4, h⟩ := chkE h
       obtain ⟨hc5, h⟩ := chkE h
       obtain ⟨hc6, h⟩ := chkE h
       obtain ⟨hc7, h⟩ := chkE h
       obtain ⟨hc8, h⟩ := chkE h
       obtain ⟨r3, hr9, h⟩ := bindE h
       refine d_region [] ([]) Tryz.mixed S rfl (by kernel_rfl) ?_;clear S;intro w9 hk8 hsel S
       refine d_quiet 0 S hsel rfl rfl rfl (by kernel_rfl) (by kernel_rfl) rfl (fun _ hw => (Rm (S.tm rfl))) ?_;clear S;intro a S
       refine d_quiet 1 S hsel rfl rfl rfl (by kernel_rfl) (by kernel_rfl) rfl (fun _ hw => (rn_lenT sl_65 (S.tm rfl) (slc_len (ownV_slcT enc_str hs2)))) ?_;clear S;intro a S
       refine d_quiet 2 S hsel rfl rfl rfl (by kernel_rfl) (by kernel_rfl) rfl (fun _ hw => (rn_neq (S.tm rfl) rfl)) ?_;clear S;intro a S
       refine d_quiet 3 S hsel rfl rfl rfl (by kernel_rfl) (by kernel_rfl) rfl (fun _ hw => (Rm (S.tm rfl))) ?_;clear S;intro a S
       refine d_skip 4 S hsel rfl rfl rfl rfl (neq_t hb5) rfl (by kernel_rfl) (by kernel_rfl) rfl ?_;clear S;intro a S
       refine d_skip 5 S hsel rfl rfl rfl rfl (neq_t hb5) rfl (by kernel_rfl) (by kernel_rfl) rfl ?_;clear S;intro a S
       refine d_skip 6 S hsel rfl rfl rfl rfl (neq_t hb5) rfl (by kernel_rfl) (by kernel_rfl) rfl ?_;clear S;intro a S
       refine d_skip 7 S hsel rfl rfl rfl rfl (neq_t hb5) rfl (by kernel_rfl) (by kernel_rfl) rfl ?_;clear S;intro a S
       refine d_skip 8 S hsel rfl rfl rfl rfl (neq_t hb5) rfl (by kernel_rfl) (by kernel_rfl) rfl ?_;clear S;intro a S
       refine d_quiet 9 S hsel rfl rfl rfl (by kernel_rfl) (by kernel_rfl) rfl (fun _ hw => (rn_pick_b hb5 (S.tm rfl) rfl)) ?_;clear S;intro a S
       refine d_quiet 10 S hsel rfl rfl rfl (by kernel_rfl) (by kernel_rfl) rfl (fun _ hw => (Rm (S.tm rfl))) ?_;clear S;intro a S
       refine d_skip 11 S hsel rfl rfl rfl rfl (neq_t hb6) rfl (by kernel_rfl) (by kernel_rfl) rfl ?_;clear S;intro a S
       refine d_skip 12 S hsel rfl rfl rfl rfl (neq_t hb6) rfl (by kernel_rfl) (by kernel_rfl) rfl ?_;clear S;intro a S
       refine d_skip 13 S hsel rfl rfl rfl rfl (neq_t hb6) rfl (by kernel_rfl) (by kernel_rfl) rfl ?_;clear S;intro a S
       refine d_skip 14 S hsel rfl rfl rfl rfl (neq_t hb6) rfl (by kernel_rfl) (by kernel_rfl) rfl ?_;clear S;intro a S
       refine d_skip 15 S hsel rfl rfl rfl rfl (neq_t hb6) rfl (by kernel_rfl) (by kernel_rfl) rfl ?_;clear S;intro a S
       refine d_quiet 16 S hsel rfl rfl rfl (by kernel_rfl) (by kernel_rfl) rfl (fun _ hw => (rn_pick_b hb6 (S.tm rfl) rfl)) ?_;clear S;intro a S
       refine d_quiet 17 S hsel rfl rfl rfl (by kernel_rfl) (by kernel_rfl) rfl (fun _ hw => (Rm (S.tm rfl))) ?_;clear S;intro a S
       refine d_skip 18 S hsel rfl rfl rfl rfl (neq_t hb7) rfl (by kernel_rfl) (by kernel_rfl) rfl ?_;clear S;intro a S
       refine d_skip 19 S hsel rfl rfl rfl rfl (neq_t hb7) rfl (by kernel_rfl) (by kernel_rfl) rfl ?_;clear S;intro a S
       refine d_skip 20 S hsel rfl rfl rfl rfl (neq_t hb7) rfl (by kernel_rfl) (by kernel_rfl) rfl ?_;clear S;intro a S
       refine d_skip 21 S hsel rfl rfl rfl rfl (neq_t hb7) rfl (by kernel_rfl) (by kernel_rfl) rfl ?_;clear S;intro a S
       refine d_skip 22 S hsel rfl rfl rfl rfl (neq_t hb7) rfl (by kernel_rfl) (by kernel_rfl) rfl ?_;clear S;intro a S
       refine d_quiet 23 S hsel rfl rfl rfl (by kernel_rfl) (by kernel_rfl) rfl (fun _ hw => (rn_pick_b hb7 (S.tm rfl) rfl)) ?_;clear S;intro a S
       refine d_quiet 24 S hsel rfl rfl rfl (by kernel_rfl) (by kernel_rfl) rfl (fun _ hw => (Rm (S.tm rfl))) ?_;clear S;intro a S
       refine d_quiet_g 25 S hsel rfl rfl rfl rfl hb8 rfl rfl (by kernel_rfl) (by kernel_rfl) rfl (fun _ hw => (Rm (S.tm rfl))) ?_;clear S;intro a S
       obtain ⟨b7, o7, hm9, hr10⟩ := rn_indexT (a := a) (x := .tmp 68) (y := .const (iV 0)) (ty := 0) sl_65 ((ownV_slcT enc_str hs2).mono (S.le_new nil_sub)) (inB_get hc4).1 (inB_get hc4).2 (S.tm rfl) rfl
       refine d_quiet_g 26 S hsel rfl rfl rfl rfl hb8 rfl rfl (by kernel_rfl) (by kernel_rfl) rfl (fun _ hw => hr10 _) ?_;clear S;intro a S
       clear hr10
       refine d_quiet_g 27 S hsel rfl rfl rfl rfl hb8 rfl rfl (by kernel_rfl) (by kernel_rfl) rfl (fun _ hw => (rn_ld Tryz.isAgg9 (off := o7) (o := 0) (S.tm rfl) (hm9.kept hw) rfl)) ?_;clear S;intro a S
       refine d_quiet_g 28 S hsel rfl rfl rfl rfl hb8 rfl rfl (by kernel_rfl) (by kernel_rfl) rfl (fun _ hw => (Rm (S.tm rfl))) ?_;clear S;intro a S
       obtain ⟨b8, o8, hm10, hr11⟩ := rn_indexT (a := a) (x := .tmp 71) (y := .const (iV 1)) (ty := 0) sl_65 ((ownV_slcT enc_str hs2).mono (S.le_new nil_sub)) (inB_get hc5).1 (inB_get hc5).2 (S.tm rfl) rfl
       refine d_quiet_g 29 S hsel rfl rfl rfl rfl hb8 rfl rfl (by kernel_rfl) (by kernel_rfl) rfl (fun _ hw => hr11 _) ?_;clear S;intro a S
       clear hr11
       refine d_quiet_g 30 S hsel rfl rfl rfl rfl hb8 rfl rfl (by kernel_rfl) (by kernel_rfl) rfl (fun _ hw => (rn_ld Tryz.isAgg9 (off := o8) (o := 0) (S.tm rfl) (hm10.kept hw) rfl)) ?_;clear S;intro a S
       refine d_quiet_g 31 S hsel rfl rfl rfl rfl hb8 rfl rfl (by kernel_rfl) (by kernel_rfl) rfl (fun _ hw => (rn_sadd (m := (nth r2 0)) (n := (nth r2 1)) (S.tm rfl) (S.tm rfl) (by have := room_lt hc6;omega))) ?_;clear S;intro a S
       refine d_quiet_g 32 S hsel rfl rfl rfl rfl hb8 rfl rfl (by kernel_rfl) (by kernel_rfl) rfl (fun _ hw => (Rm (S.tm rfl))) ?_;clear S;intro a S
       obtain ⟨b9, o9, hm11, hr12⟩ := rn_indexT (a := a) (x := .tmp 75) (y := .const (iV 2)) (ty := 0) sl_65 ((ownV_slcT enc_str hs2).mono (S.le_new nil_sub)) (inB_get hc7).1 (inB_get hc7).2 (S.tm rfl) rfl
       refine d_quiet_g 33 S hsel rfl rfl rfl rfl hb8 rfl rfl (by kernel_rfl) (by kernel_rfl) rfl (fun _ hw => hr12 _) ?_;clear S;intro a S
       clear hr12
       refine d_quiet_g 34 S hsel rfl rfl rfl rfl hb8 rfl rfl (by kernel_rfl) (by kernel_rfl) rfl (fun _ hw => (rn_ld Tryz.isAgg9 (off := o9) (o := 0) (S.tm rfl) (hm11.kept hw) rfl)) ?_;clear S;intro a S
       refine d_quiet_g 35 S hsel rfl rfl rfl rfl hb8 rfl rfl (by kernel_rfl) (by kernel_rfl) rfl (fun _ hw => (rn_sadd (m := ((nth r2 0) ++ (nth r2 1))) (n := (nth r2 2)) (S.tm rfl) (S.tm rfl) (by have := room_lt hc8;omega))) ?_;clear S;intro a S
       refine d_loud1 36 (by kernel_rfl) rfl (l_want S rfl rfl rfl hb8 (l_enter S (fun _ => run_call (vs := [sV (((nth r2 0) ++ (nth r2 1)) ++ (nth r2 2)), sV k_0123456789]) ⟨(S.tm rfl), rfl, trivial⟩ Tryz.call40) (tumbref2_only_ok _ (((nth r2 0) ++ (nth r2 1)) ++ (nth r2 2)) k_0123456789 _ hr9) rfl ?_));clear S;intro v4 a w10 hv4 hk9 hn4 S
       subst hv4
       refine Ld (d_next hk9 (d_rest [37, 38] hsel (by kernel_rfl) rfl ?_))
       clear hsel
       refine s_want S rfl rfl rfl rfl hb8 (s_lv0 S (rn_not (S.tm rfl)) rfl ?_);clear S;intro a S
       refine s_lv S rfl (rn_pick_c hb8 (S.tm rfl) (S.tm rfl)) rfl ?_;clear S;intro a S
       refine s_done ?_
       replace S := S.nk [.blk Ab [Aa] 26, .own Aa 38 3 Ag.length (Ag.flatMap GSwimmer.enc)] [(1, .pointer (some ⟨Ab, 0, none⟩)), (4, u1), (6, v2), (81, bV (!r3))] [true, true] rfl (subR rfl)
       refine Tn ?_
       exact ⟨!r3, h, S.nf [true, true] rfl (subR rfl)⟩
     ·replace h := iteF h hb7
      obtain ⟨hc9, h⟩ := chkE h
      rcases Bool.eq_false_or_eq_true (!decide (((nth r2 2).size : Int) = 2)) with hb9 | hb9
      ·replace h := iteT h hb9
       refine d_region [] ([]) Tryz.mixed S rfl (by kernel_rfl) ?_;clear S;intro w11 hk10 hsel S
       refine d_rest [0, 1, 2, 3, 4, 5, 6, 7, 8, 9, 10, 11, 12, 13, 14, 15, 16, 17, 18, 19, 20, 21, 22, 23, 24, 25, 26, 27, 28, 29, 30, 31, 32, 33, 34, 35, 36, 37, 38] hsel (by kernel_rfl) rfl ?_
       clear hsel
       refine s_lv S rfl (Rm (S.tm rfl)) rfl ?_;clear S;intro a S
       refine s_lv S rfl (rn_lenT sl_65 (S.tm rfl) (slc_len (ownV_slcT enc_str hs2))) rfl ?_;clear S;intro a S
       refine s_lv S rfl (rn_neq (S.tm rfl) rfl) rfl ?_;clear S;intro a S
       refine s_lv S rfl (Rm (S.tm rfl)) rfl ?_;clear S;intro a S
       iterate 5 (refine s_skip S rfl rfl rfl rfl (neq_t hb5) rfl ?_ rfl;clear S;intro a S)
       refine s_lv S rfl (rn_pick_b hb5 (S.tm rfl) rfl) rfl ?_;clear S;intro a S
       refine s_lv S rfl (Rm (S.tm rfl)) rfl ?_;clear S;intro a S
       iterate 5 (refine s_skip S rfl rfl rfl rfl (neq_t hb6) rfl ?_ rfl;clear S;intro a S)
       refine s_lv S rfl (rn_pick_b hb6 (S.tm rfl) rfl) rfl ?_;clear S;intro a S
       refine s_lv S rfl (Rm (S.tm rfl)) rfl ?_;clear S;intro a S
       refine s_want S rfl rfl rfl rfl hb7 (s_lv0 S (Rm (S.tm rfl)) rfl ?_);clear S;intro a S
       refine s_want S rfl rfl rfl rfl hb7 ?_
       obtain ⟨hc10, h⟩ := chkE h
       obtain ⟨b11, o11, hm13, hr14⟩ := rn_indexT (a := a) (x := .tmp 61) (y := .const (iV 2)) (ty := 0) sl_65 (ownV_slcT enc_str hs2) (inB_get hc10).1 (inB_get hc10).2 (S.tm rfl) rfl
       refine s_lv0 S (hr14 _) rfl ?_;clear S;intro a S
       clear hr14
       refine s_want S rfl rfl rfl rfl hb7 (s_lv0 S (rn_ld Tryz.isAgg9 (off := o11) (o := 0) (S.tm rfl) (hm13.at S.emb) rfl) rfl ?_);clear S;intro a S
       refine s_want S rfl rfl rfl rfl hb7 (s_lv0 S (rn_len_str Tryz.underlying9 (S.tm rfl)) rfl ?_);clear S;intro a S
       refine s_want S rfl rfl rfl rfl hb7 (s_lv0 S (rn_neq (S.tm rfl) rfl) rfl ?_);clear S;intro a S
       refine s_lv S rfl (rn_pick_c hb7 (S.tm rfl) (S.tm rfl)) rfl ?_;clear S;intro a S
       refine s_lv S rfl (Rm (S.tm rfl)) rfl ?_;clear S;intro a S
       iterate 13 (refine s_skip S rfl rfl rfl rfl (neq_t hb9) rfl ?_ rfl;clear S;intro a S)
       refine s_lv S rfl (rn_pick_b hb9 (S.tm rfl) rfl) rfl ?_;clear S;intro a S
       refine s_done ?_
       replace S := S.nk [.blk Ab [Aa] 26, .own Aa 38 3 Ag.length (Ag.flatMap GSwimmer.enc)] [(1, .pointer (some ⟨Ab, 0, none⟩)), (4, u1), (6, v2), (81, bV true)] [true, true] rfl (subR rfl)
       refine Tn ?_
       exact ⟨true, h, S.nf [true, true] rfl (subR rfl)⟩
      ·replace h := iteF h hb9
       obtain ⟨hc11, h⟩ := chkE h
       obtain ⟨hc12, h⟩ := chkE h
       obtain ⟨hc13, h⟩ := chkE h
       obtain ⟨hc14, h⟩ := chkE h
       obtain ⟨hc15, h⟩ := chkE h
       obtain ⟨r4, hr19, h⟩ := bindE h
       refine d_region [] ([]) Tryz.mixed S rfl (by kernel_rfl) ?_;clear S;intro w13 hk12 hsel S
       refine d_quiet 0 S hsel rfl rfl rfl (by kernel_rfl) (by kernel_rfl) rfl (fun _ hw => (Rm (S.tm rfl))) ?_;clear S;intro a S
       refine d_quiet 1 S hsel rfl rfl rfl (by kernel_rfl) (by kernel_rfl) rfl (fun _ hw => (rn_lenT sl_65 (S.tm rfl) (slc_len (ownV_slcT enc_str hs2)))) ?_;clear S;intro a S
       refine d_quiet 2 S hsel rfl rfl rfl (by kernel_rfl) (by kernel_rfl) rfl (fun _ hw => (rn_neq (S.tm rfl) rfl)) ?_;clear S;intro a S
       refine d_quiet 3 S hsel rfl rfl rfl (by kernel_rfl) (by kernel_rfl) rfl (fun _ hw => (Rm (S.tm rfl))) ?_;clear S;intro a S
       refine d_skip 4 S hsel rfl rfl rfl rfl (neq_t hb5) rfl (by kernel_rfl) (by kernel_rfl) rfl ?_;clear S;intro a S
       refine d_skip 5 S hsel rfl rfl rfl rfl (neq_t hb5) rfl (by kernel_rfl) (by kernel_rfl) rfl ?_;clear S;intro a S
       refine d_skip 6 S hsel rfl rfl rfl rfl (neq_t hb5) rfl (by kernel_rfl) (by kernel_rfl) rfl ?_;clear S;intro a S
       refine d_skip 7 S hsel rfl rfl rfl rfl (neq_t hb5) rfl (by kernel_rfl) (by kernel_rfl) rfl ?_;clear S;intro a S
       refine d_skip 8 S hsel rfl rfl rfl rfl (neq_t hb5) rfl (by kernel_rfl) (by kernel_rfl) rfl ?_;clear S;intro a S
       refine d_quiet 9 S hsel rfl rfl rfl (by kernel_rfl) (by kernel_rfl) rfl (fun _ hw => (rn_pick_b hb5 (S.tm rfl) rfl)) ?_;clear S;intro a S
       refine d_quiet 10 S hsel rfl rfl rfl (by kernel_rfl) (by kernel_rfl) rfl (fun _ hw => (Rm (S.tm rfl))) ?_;clear S;intro a S
       refine d_skip 11 S hsel rfl rfl rfl rfl (neq_t hb6) rfl (by kernel_rfl) (by kernel_rfl) rfl ?_;clear S;intro a S
       refine d_skip 12 S hsel rfl rfl rfl rfl (neq_t hb6) rfl (by kernel_rfl) (by kernel_rfl) rfl ?_;clear S;intro a S
       refine d_skip 13 S hsel rfl rfl rfl rfl (neq_t hb6) rfl (by kernel_rfl) (by kernel_rfl) rfl ?_;clear S;intro a S
       refine d_skip 14 S hsel rfl rfl rfl rfl (neq_t hb6) rfl (by kernel_rfl) (by kernel_rfl) rfl ?_;clear S;intro a S
       refine d_skip 15 S hsel rfl rfl rfl rfl (neq_t hb6) rfl (by kernel_rfl) (by kernel_rfl) rfl ?_;clear S;intro a S
       refine d_quiet 16 S hsel rfl rfl rfl (by kernel_rfl) (by kernel_rfl) rfl (fun _ hw => (rn_pick_b hb6 (S.tm rfl) rfl)) ?_;clear S;intro a S
       refine d_quiet 17 S hsel rfl rfl rfl (by kernel_rfl) (by kernel_rfl) rfl (fun _ hw => (Rm (S.tm rfl))) ?_;clear S;intro a S
       refine d_quiet_g 18 S hsel rfl rfl rfl rfl hb7 rfl rfl (by kernel_rfl) (by kernel_rfl) rfl (fun _ hw => (Rm (S.tm rfl))) ?_;clear S;intro a S
       obtain ⟨b16, o16, hm18, hr20⟩ := rn_indexT (a := a) (x := .tmp 61) (y := .const (iV 2)) (ty := 0) sl_65 ((ownV_slcT enc_str hs2).mono (S.le_new nil_sub)) (inB_get hc9).1 (inB_get hc9).2 (S.tm rfl) rfl
       refine d_quiet_g 19 S hsel rfl rfl rfl rfl hb7 rfl rfl (by kernel_rfl) (by kernel_rfl) rfl (fun _ hw => hr20 _) ?_;clear S;intro a S
       clear hr20
       refine d_quiet_g 20 S hsel rfl rfl rfl rfl hb7 rfl rfl (by kernel_rfl) (by kernel_rfl) rfl (fun _ hw => (rn_ld Tryz.isAgg9 (off := o16) (o := 0) (S.tm rfl) (hm18.kept hw) rfl)) ?_;clear S;intro a S
       refine d_quiet_g 21 S hsel rfl rfl rfl rfl hb7 rfl rfl (by kernel_rfl) (by kernel_rfl) rfl (fun _ hw => (rn_len_str Tryz.underlying9 (S.tm rfl))) ?_;clear S;intro a S
       refine d_quiet_g 22 S hsel rfl rfl rfl rfl hb7 rfl rfl (by kernel_rfl) (by kernel_rfl) rfl (fun _ hw => (rn_neq (S.tm rfl) rfl)) ?_;clear S;intro a S
       refine d_quiet 23 S hsel rfl rfl rfl (by kernel_rfl) (by kernel_rfl) rfl (fun _ hw => (rn_pick_c hb7 (S.tm rfl) (S.tm rfl))) ?_;clear S;intro a S
       refine d_quiet 24 S hsel rfl rfl rfl (by kernel_rfl) (by kernel_rfl) rfl (fun _ hw => (Rm (S.tm rfl))) ?_;clear S;intro a S
       refine d_quiet_g 25 S hsel rfl rfl rfl rfl hb9 rfl rfl (by kernel_rfl) (by kernel_rfl) rfl (fun _ hw => (Rm (S.tm rfl))) ?_;clear S;intro a S
       obtain ⟨b17, o17, hm19, hr21⟩ := rn_indexT (a := a) (x := .tmp 68) (y := .const (iV 0)) (ty := 0) sl_65 ((ownV_slcT enc_str hs2).mono (S.le_new nil_sub)) (inB_get hc11).1 (inB_get hc11).2 (S.tm rfl) rfl
       refine d_quiet_g 26 S hsel rfl rfl rfl rfl hb9 rfl rfl (by kernel_rfl) (by kernel_rfl) rfl (fun _ hw => hr21 _) ?_;clear S;intro a S
       clear hr21
       refine d_quiet_g 27 S hsel rfl rfl rfl rfl hb9 rfl rfl (by kernel_rfl) (by kernel_rfl) rfl (fun _ hw => (rn_ld Tryz.isAgg9 (off := o17) (o := 0) (S.tm rfl) (hm19.kept hw) rfl)) ?_;clear S;intro a S
       refine d_quiet_g 28 S hsel rfl rfl rfl rfl hb9 rfl rfl (by kernel_rfl) (by kernel_rfl) rfl (fun _ hw => (Rm (S.tm rfl))) ?_;clear S;intro a S
       obtain ⟨b18, o18, hm20, hr22⟩ := rn_indexT (a := a) (x := .tmp 71) (y := .const (iV 1)) (ty := 0) sl_65 ((ownV_slcT enc_str hs2).mono (S.le_new nil_sub)) (inB_get hc12).1 (inB_get hc12).2 (S.tm rfl) rfl
       refine d_quiet_g 29 S hsel rfl rfl rfl rfl hb9 rfl rfl (by kernel_rfl) (by kernel_rfl) rfl (fun _ hw => hr22 _) ?_;clear S;intro a S
       clear hr22
       refine d_quiet_g 30 S hsel rfl rfl rfl rfl hb9 rfl rfl (by kernel_rfl) (by kernel_rfl) rfl (fun _ hw => (rn_ld Tryz.isAgg9 (off := o18) (o := 0) (S.tm rfl) (hm20.kept hw) rfl)) ?_;clear S;intro a S
       refine d_quiet_g 31 S hsel rfl rfl rfl rfl hb9 rfl rfl (by kernel_rfl) (by kernel_rfl) rfl (fun _ hw => (rn_sadd (m := (nth r2 0)) (n := (nth r2 1)) (S.tm rfl) (S.tm rfl) (by have := room_lt hc13;omega))) ?_;clear S;intro a S
       refine d_quiet_g 32 S hsel rfl rfl rfl rfl hb9 rfl rfl (by kernel_rfl) (by kernel_rfl) rfl (fun _ hw => (Rm (S.tm rfl))) ?_;clear S;intro a S
       obtain ⟨b19, o19, hm21, hr23⟩ := rn_indexT (a := a) (x := .tmp 75) (y := .const (iV 2)) (ty := 0) sl_65 ((ownV_slcT enc_str hs2).mono (S.le_new nil_sub)) (inB_get hc14).1 (inB_get hc14).2 (S.tm rfl) rfl
       refine d_quiet_g 33 S hsel rfl rfl rfl rfl hb9 rfl rfl (by kernel_rfl) (by kernel_rfl) rfl (fun _ hw => hr23 _) ?_;clear S;intro a S
       clear hr23
       refine d_quiet_g 34 S hsel rfl rfl rfl rfl hb9 rfl rfl (by kernel_rfl) (by kernel_rfl) rfl (fun _ hw => (rn_ld Tryz.isAgg9 (off := o19) (o := 0) (S.tm rfl) (hm21.kept hw) rfl)) ?_;clear S;intro a S
       refine d_quiet_g 35 S hsel rfl rfl rfl rfl hb9 rfl rfl (by kernel_rfl) (by kernel_rfl) rfl (fun _ hw => (rn_sadd (m := ((nth r2 0) ++ (nth r2 1))) (n := (nth r2 2)) (S.tm rfl) (S.tm rfl) (by have := room_lt hc15;omega))) ?_;clear S;intro a S
       refine d_loud1 36 (by kernel_rfl) rfl (l_want S rfl rfl rfl hb9 (l_enter S (fun _ => run_call (vs := [sV (((nth r2 0) ++ (nth r2 1)) ++ (nth r2 2)), sV k_0123456789]) ⟨(S.tm rfl), rfl, trivial⟩ Tryz.call40) (tumbref2_only_ok _ (((nth r2 0) ++ (nth r2 1)) ++ (nth r2 2)) k_0123456789 _ hr19) rfl ?_));clear S;intro v6 a w14 hv6 hk13 hn6 S
       subst hv6
       refine Ld (d_next hk13 (d_rest [37, 38] hsel (by kernel_rfl) rfl ?_))
       clear hsel
       refine s_want S rfl rfl rfl rfl hb9 (s_lv0 S (rn_not (S.tm rfl)) rfl ?_);clear S;intro a S
       refine s_lv S rfl (rn_pick_c hb9 (S.tm rfl) (S.tm rfl)) rfl ?_;clear S;intro a S
       refine s_done ?_
       replace S := S.nk [.blk Ab [Aa] 26, .own Aa 38 3 Ag.length (Ag.flatMap GSwimmer.enc)] [(1, .pointer (some ⟨Ab, 0, none⟩)), (4, u1), (6, v2), (81, bV (!r4))] [true, true] rfl (subR rfl)
       refine Tn ?_
       exact ⟨!r4, h, S.nf [true, true] rfl (subR rfl)⟩
    ·replace h := iteF h hb6
     obtain ⟨hc16, h⟩ := chkE h
     rcases Bool.eq_false_or_eq_true (!decide (((nth r2 1).size : Int) = 2)) with hb10 | hb10
     ·replace h := iteT h hb10
      rcases Bool.eq_false_or_eq_true true with hb11 | hb11
      ·replace h := iteT h hb11
       refine d_region [] ([]) Tryz.mixed S rfl (by kernel_rfl) ?_;clear S;intro w15 hk14 hsel S
       refine d_rest [0, 1, 2, 3, 4, 5, 6, 7, 8, 9, 10, 11, 12, 13, 14, 15, 16, 17, 18, 19, 20, 21, 22, 23, 24, 25, 26, 27, 28, 29, 30, 31, 32, 33, 34, 35, 36, 37, 38] hsel (by kernel_rfl) rfl ?_
       clear hsel
       refine s_lv S rfl (Rm (S.tm rfl)) rfl ?_;clear S;intro a S
       refine s_lv S rfl (rn_lenT sl_65 (S.tm rfl) (slc_len (ownV_slcT enc_str hs2))) rfl ?_;clear S;intro a S
       refine s_lv S rfl (rn_neq (S.tm rfl) rfl) rfl ?_;clear S;intro a S
       refine s_lv S rfl (Rm (S.tm rfl)) rfl ?_;clear S;intro a S
       iterate 5 (refine s_skip S rfl rfl rfl rfl (neq_t hb5) rfl ?_ rfl;clear S;intro a S)
       refine s_lv S rfl (rn_pick_b hb5 (S.tm rfl) rfl) rfl ?_;clear S;intro a S
       refine s_lv S rfl (Rm (S.tm rfl)) rfl ?_;clear S;intro a S
       refine s_want S rfl rfl rfl rfl hb6 (s_lv0 S (Rm (S.tm rfl)) rfl ?_);clear S;intro a S
       refine s_want S rfl rfl rfl rfl hb6 ?_
       obtain ⟨hc17, h⟩ := chkE h
       obtain ⟨b22, o22, hm24, hr26⟩ := rn_indexT (a := a) (x := .tmp 54) (y := .const (iV 1)) (ty := 0) sl_65 (ownV_slcT enc_str hs2) (inB_get hc17).1 (inB_get hc17).2 (S.tm rfl) rfl
       refine s_lv0 S (hr26 _) rfl ?_;clear S;intro a S
       clear hr26
       refine s_want S rfl rfl rfl rfl hb6 (s_lv0 S (rn_ld Tryz.isAgg9 (off := o22) (o := 0) (S.tm rfl) (hm24.at S.emb) rfl) rfl ?_);clear S;intro a S
       refine s_want S rfl rfl rfl rfl hb6 (s_lv0 S (rn_len_str Tryz.underlying9 (S.tm rfl)) rfl ?_);clear S;intro a S
       refine s_want S rfl rfl rfl rfl hb6 (s_lv0 S (rn_neq (S.tm rfl) rfl) rfl ?_);clear S;intro a S
       refine s_lv S rfl (rn_pick_c hb6 (S.tm rfl) (S.tm rfl)) rfl ?_;clear S;intro a S
       refine s_lv S rfl (Rm (S.tm rfl)) rfl ?_;clear S;intro a S
       iterate 5 (refine s_skip S rfl rfl rfl rfl (neq_t hb10) rfl ?_ rfl;clear S;intro a S)
       refine s_lv S rfl (rn_pick_b hb10 (S.tm rfl) rfl) rfl ?_;clear S;intro a S
       refine s_lv S rfl (Rm (S.tm rfl)) rfl ?_;clear S;intro a S
       iterate 13 (refine s_skip S rfl rfl rfl rfl (neq_t hb11) rfl ?_ rfl;clear S;intro a S)
       refine s_lv S rfl (rn_pick_b hb11 (S.tm rfl) rfl) rfl ?_;clear S;intro a S
       refine s_done ?_
       replace S := S.nk [.blk Ab [Aa] 26, .own Aa 38 3 Ag.length (Ag.flatMap GSwimmer.enc)] [(1, .pointer (some ⟨Ab, 0, none⟩)), (4, u1), (6, v2), (81, bV true)] [true, true] rfl (subR rfl)
       refine Tn ?_
       exact ⟨true, h, S.nf [true, true] rfl (subR rfl)⟩
      ·replace h := iteF h hb11
       obtain ⟨hc18, h⟩ := chkE h
       obtain ⟨hc19, h⟩ := chkE h
       obtain ⟨hc20, h⟩ := chkE h
       obtain ⟨hc21, h⟩ := chkE h
       obtain ⟨hc22, h⟩ := chkE h
       obtain ⟨r5, hr31, h⟩ := bindE h
       refine d_region [] ([]) Tryz.mixed S rfl (by kernel_rfl) ?_;clear S;intro w17 hk16 hsel S
       refine d_quiet 0 S hsel rfl rfl rfl (by kernel_rfl) (by kernel_rfl) rfl (fun _ hw => (Rm (S.tm rfl))) ?_;clear S;intro a S
       refine d_quiet 1 S hsel rfl rfl rfl (by kernel_rfl) (by kernel_rfl) rfl (fun _ hw => (rn_lenT sl_65 (S.tm rfl) (slc_len (ownV_slcT enc_str hs2)))) ?_;clear S;intro a S
       refine d_quiet 2 S hsel rfl rfl rfl (by kernel_rfl) (by kernel_rfl) rfl (fun _ hw => (rn_neq (S.tm rfl) rfl)) ?_;clear S;intro a S
       refine d_quiet 3 S hsel rfl rfl rfl (by kernel_rfl) (by kernel_rfl) rfl (fun _ hw => (Rm (S.tm rfl))) ?_;clear S;intro a S
       refine d_skip 4 S hsel rfl rfl rfl rfl (neq_t hb5) rfl (by kernel_rfl) (by kernel_rfl) rfl ?_;clear S;intro a S
       refine d_skip 5 S hsel rfl rfl rfl rfl (neq_t hb5) rfl (by kernel_rfl) (by kernel_rfl) rfl ?_;clear S;intro a S
       refine d_skip 6 S hsel rfl rfl rfl rfl (neq_t hb5) rfl (by kernel_rfl) (by kernel_rfl) rfl ?_;clear S;intro a S
       refine d_skip 7 S hsel rfl rfl rfl rfl (neq_t hb5) rfl (by kernel_rfl) (by kernel_rfl) rfl ?_;clear S;intro a S
       refine d_skip 8 S hsel rfl rfl rfl rfl (neq_t hb5) rfl (by kernel_rfl) (by kernel_rfl) rfl ?_;clear S;intro a S
       refine d_quiet 9 S hsel rfl rfl rfl (by kernel_rfl) (by kernel_rfl) rfl (fun _ hw => (rn_pick_b hb5 (S.tm rfl) rfl)) ?_;clear S;intro a S
       refine d_quiet 10 S hsel rfl rfl rfl (by kernel_rfl) (by kernel_rfl) rfl (fun _ hw => (Rm (S.tm rfl))) ?_;clear S;intro a S
       refine d_quiet_g 11 S hsel rfl rfl rfl rfl hb6 rfl rfl (by kernel_rfl) (by kernel_rfl) rfl (fun _ hw => (Rm (S.tm rfl))) ?_;clear S;intro a S
       obtain ⟨b27, o27, hm29, hr32⟩ := rn_indexT (a := a) (x := .tmp 54) (y := .const (iV 1)) (ty := 0) sl_65 ((ownV_slcT enc_str hs2).mono (S.le_new nil_sub)) (inB_get hc16).1 (inB_get hc16).2 (S.tm rfl) rfl
       refine d_quiet_g 12 S hsel rfl rfl rfl rfl hb6 rfl rfl (by kernel_rfl) (by kernel_rfl) rfl (fun _ hw => hr32 _) ?_;clear S;intro a S
       clear hr32
       refine d_quiet_g 13 S hsel rfl rfl rfl rfl hb6 rfl rfl (by kernel_rfl) (by kernel_rfl) rfl (fun _ hw => (rn_ld Tryz.isAgg9 (off := o27) (o := 0) (S.tm rfl) (hm29.kept hw) rfl)) ?_;clear S;intro a S
       refine d_quiet_g 14 S hsel rfl rfl rfl rfl hb6 rfl rfl (by kernel_rfl) (by kernel_rfl) rfl (fun _ hw => (rn_len_str Tryz.underlying9 (S.tm rfl))) ?_;clear S;intro a S
       refine d_quiet_g 15 S hsel rfl rfl rfl rfl hb6 rfl rfl (by kernel_rfl) (by kernel_rfl) rfl (fun _ hw => (rn_neq (S.tm rfl) rfl)) ?_;clear S;intro a S
       refine d_quiet 16 S hsel rfl rfl rfl (by kernel_rfl) (by kernel_rfl) rfl (fun _ hw => (rn_pick_c hb6 (S.tm rfl) (S.tm rfl))) ?_;clear S;intro a S
       refine d_quiet 17 S hsel rfl rfl rfl (by kernel_rfl) (by kernel_rfl) rfl (fun _ hw => (Rm (S.tm rfl))) ?_;clear S;intro a S
       refine d_skip 18 S hsel rfl rfl rfl rfl (neq_t hb10) rfl (by kernel_rfl) (by kernel_rfl) rfl ?_;clear S;intro a S
       refine d_skip 19 S hsel rfl rfl rfl rfl (neq_t hb10) rfl (by kernel_rfl) (by kernel_rfl) rfl ?_;clear S;intro a S
       refine d_skip 20 S hsel rfl rfl rfl rfl (neq_t hb10) rfl (by kernel_rfl) (by kernel_rfl) rfl ?_;clear S;intro a S
       refine d_skip 21 S hsel rfl rfl rfl rfl (neq_t hb10) rfl (by kernel_rfl) (by kernel_rfl) rfl ?_;clear S;intro a S
       refine d_skip 22 S hsel rfl rfl rfl rfl (neq_t hb10) rfl (by kernel_rfl) (by kernel_rfl) rfl ?_;clear S;intro a S
       refine d_quiet 23 S hsel rfl rfl rfl (by kernel_rfl) (by kernel_rfl) rfl (fun _ hw => (rn_pick_b hb10 (S.tm rfl) rfl)) ?_;clear S;intro a S
       refine d_quiet 24 S hsel rfl rfl rfl (by kernel_rfl) (by kernel_rfl) rfl (fun _ hw => (Rm (S.tm rfl))) ?_;clear S;intro a S
       refine d_quiet_g 25 S hsel rfl rfl rfl rfl hb11 rfl rfl (by kernel_rfl) (by kernel_rfl) rfl (fun _ hw => (Rm (S.tm rfl))) ?_;clear S;intro a S
       obtain ⟨b28, o28, hm30, hr33⟩ := rn_indexT (a := a) (x := .tmp 68) (y := .const (iV 0)) (ty := 0) sl_65 ((ownV_slcT enc_str hs2).mono (S.le_new nil_sub)) (inB_get hc18).1 (inB_get hc18).2 (S.tm rfl) rfl
       refine d_quiet_g 26 S hsel rfl rfl rfl rfl hb11 rfl rfl (by kernel_rfl) (by kernel_rfl) rfl (fun _ hw => hr33 _) ?_;clear S;intro a S
       clear hr33
       refine d_quiet_g 27 S hsel rfl rfl rfl rfl hb11 rfl rfl (by kernel_rfl) (by kernel_rfl) rfl (fun _ hw => (rn_ld Tryz.isAgg9 (off := o28) (o := 0) (S.tm rfl) (hm30.kept hw) rfl)) ?_;clear S;intro a S
       refine d_quiet_g 28 S hsel rfl rfl rfl rfl hb11 rfl rfl (by kernel_rfl) (by kernel_rfl) rfl (fun _ hw => (Rm (S.tm rfl))) ?_;clear S;intro a S
       obtain ⟨b29, o29, hm31, hr34⟩ := rn_indexT (a := a) (x := .tmp 71) (y := .const (iV 1)) (ty := 0) sl_65 ((ownV_slcT enc_str hs2).mono (S.le_new nil_sub)) (inB_get hc19).1 (inB_get hc19).2 (S.tm rfl) rfl
       refine d_quiet_g 29 S hsel rfl rfl rfl rfl hb11 rfl rfl (by kernel_rfl) (by kernel_rfl) rfl (fun _ hw => hr34 _) ?_;clear S;intro a S
       clear hr34
       refine d_quiet_g 30 S hsel rfl rfl rfl rfl hb11 rfl rfl (by kernel_rfl) (by kernel_rfl) rfl (fun _ hw => (rn_ld Tryz.isAgg9 (off := o29) (o := 0) (S.tm rfl) (hm31.kept hw) rfl)) ?_;clear S;intro a S
       refine d_quiet_g 31 S hsel rfl rfl rfl rfl hb11 rfl rfl (by kernel_rfl) (by kernel_rfl) rfl (fun _ hw => (rn_sadd (m := (nth r2 0)) (n := (nth r2 1)) (S.tm rfl) (S.tm rfl) (by have := room_lt hc20;omega))) ?_;clear S;intro a S
       refine d_quiet_g 32 S hsel rfl rfl rfl rfl hb11 rfl rfl (by kernel_rfl) (by kernel_rfl) rfl (fun _ hw => (Rm (S.tm rfl))) ?_;clear S;intro a S
       obtain ⟨b30, o30, hm32, hr35⟩ := rn_indexT (a := a) (x := .tmp 75) (y := .const (iV 2)) (ty := 0) sl_65 ((ownV_slcT enc_str hs2).mono (S.le_new nil_sub)) (inB_get hc21).1 (inB_get hc21).2 (S.tm rfl) rfl
       refine d_quiet_g 33 S hsel rfl rfl rfl rfl hb11 rfl rfl (by kernel_rfl) (by kernel_rfl) rfl (fun _ hw => hr35 _) ?_;clear S;intro a S
       clear hr35
       refine d_quiet_g 34 S hsel rfl rfl rfl rfl hb11 rfl rfl (by kernel_rfl) (by kernel_rfl) rfl (fun _ hw => (rn_ld Tryz.isAgg9 (off := o30) (o := 0) (S.tm rfl) (hm32.kept hw) rfl)) ?_;clear S;intro a S
       refine d_quiet_g 35 S hsel rfl rfl rfl rfl hb11 rfl rfl (by kernel_rfl) (by kernel_rfl) rfl (fun _ hw => (rn_sadd (m := ((nth r2 0) ++ (nth r2 1))) (n := (nth r2 2)) (S.tm rfl) (S.tm rfl) (by have := room_lt hc22;omega))) ?_;clear S;intro a S
       refine d_loud1 36 (by kernel_rfl) rfl (l_want S rfl rfl rfl hb11 (l_enter S (fun _ => run_call (vs := [sV (((nth r2 0) ++ (nth r2 1)) ++ (nth r2 2)), sV k_0123456789]) ⟨(S.tm rfl), rfl, trivial⟩ Tryz.call40) (tumbref2_only_ok _ (((nth r2 0) ++ (nth r2 1)) ++ (nth r2 2)) k_0123456789 _ hr31) rfl ?_));clear S;intro v8 a w18 hv8 hk17 hn8 S
       subst hv8
       refine Ld (d_next hk17 (d_rest [37, 38] hsel (by kernel_rfl) rfl ?_))
       clear hsel
       refine s_want S rfl rfl rfl rfl hb11 (s_lv0 S (rn_not (S.tm rfl)) rfl ?_);clear S;intro a S
       refine s_lv S rfl (rn_pick_c hb11 (S.tm rfl) (S.tm rfl)) rfl ?_;clear S;intro a S
       refine s_done ?_
       replace S := S.nk [.blk Ab [Aa] 26, .own Aa 38 3 Ag.length (Ag.flatMap GSwimmer.enc)] [(1, .pointer (some ⟨Ab, 0, none⟩)), (4, u1), (6, v2), (81, bV (!r5))] [true, true] rfl (subR rfl)
       refine Tn ?_
       exact ⟨!r5, h, S.nf [true, true] rfl (subR rfl)⟩
     ·replace h := iteF h hb10
      obtain ⟨hc23, h⟩ := chkE h
      rcases Bool.eq_false_or_eq_true (!decide (((nth r2 2).size : Int) = 2)) with hb12 | hb12
      ·replace h := iteT h hb12
       refine d_region [] ([]) Tryz.mixed S rfl (by kernel_rfl) ?_;clear S;intro w19 hk18 hsel S
       refine d_rest [0, 1, 2, 3, 4, 5, 6, 7, 8, 9, 10, 11, 12, 13, 14, 15, 16, 17, 18, 19, 20, 21, 22, 23, 24, 25, 26, 27, 28, 29, 30, 31, 32, 33, 34, 35, 36, 37, 38] hsel (by kernel_rfl) rfl ?_
       clear hsel
       refine s_lv S rfl (Rm (S.tm rfl)) rfl ?_;clear S;intro a S
       refine s_lv S rfl (rn_lenT sl_65 (S.tm rfl) (slc_len (ownV_slcT enc_str hs2))) rfl ?_;clear S;intro a S
       refine s_lv S rfl (rn_neq (S.tm rfl) rfl) rfl ?_;clear S;intro a S
       refine s_lv S rfl (Rm (S.tm rfl)) rfl ?_;clear S;intro a S
       iterate 5 (refine s_skip S rfl rfl rfl rfl (neq_t hb5) rfl ?_ rfl;clear S;intro a S)
       refine s_lv S rfl (rn_pick_b hb5 (S.tm rfl) rfl) rfl ?_;clear S;intro a S
       refine s_lv S rfl (Rm (S.tm rfl)) rfl ?_;clear S;intro a S
       refine s_want S rfl rfl rfl rfl hb6 (s_lv0 S (Rm (S.tm rfl)) rfl ?_);clear S;intro a S
       refine s_want S rfl rfl rfl rfl hb6 ?_
       obtain ⟨hc24, h⟩ := chkE h
       obtain ⟨b33, o33, hm35, hr38⟩ := rn_indexT (a := a) (x := .tmp 54) (y := .const (iV 1)) (ty := 0) sl_65 (ownV_slcT enc_str hs2) (inB_get hc24).1 (inB_get hc24).2 (S.tm rfl) rfl
       refine s_lv0 S (hr38 _) rfl ?_;clear S;intro a S
       clear hr38
       refine s_want S rfl rfl rfl rfl hb6 (s_lv0 S (rn_ld Tryz.isAgg9 (off := o33) (o := 0) (S.tm rfl) (hm35.at S.emb) rfl) rfl ?_);clear S;intro a S
       refine s_want S rfl rfl rfl rfl hb6 (s_lv0 S (rn_len_str Tryz.underlying9 (S.tm rfl)) rfl ?_);clear S;intro a S
       refine s_want S rfl rfl rfl rfl hb6 (s_lv0 S (rn_neq (S.tm rfl) rfl) rfl ?_);clear S;intro a S
       refine s_lv S rfl (rn_pick_c hb6 (S.tm rfl) (S.tm rfl)) rfl ?_;clear S;intro a S
       refine s_lv S rfl (Rm (S.tm rfl)) rfl ?_;clear S;intro a S
       refine s_want S rfl rfl rfl rfl hb10 (s_lv0 S (Rm (S.tm rfl)) rfl ?_);clear S;intro a S
       refine s_want S rfl rfl rfl rfl hb10 ?_
       obtain ⟨hc25, h⟩ := chkE h
       obtain ⟨b34, o34, hm36, hr39⟩ := rn_indexT (a := a) (x := .tmp 61) (y := .const (iV 2)) (ty := 0) sl_65 (ownV_slcT enc_str hs2) (inB_get hc25).1 (inB_get hc25).2 (S.tm rfl) rfl
       refine s_lv0 S (hr39 _) rfl ?_;clear S;intro a S
       clear hr39
       refine s_want S rfl rfl rfl rfl hb10 (s_lv0 S (rn_ld Tryz.isAgg9 (off := o34) (o := 0) (S.tm rfl) (hm36.at S.emb) rfl) rfl ?_);clear S;intro a S
       refine s_want S rfl rfl rfl rfl hb10 (s_lv0 S (rn_len_str Tryz.underlying9 (S.tm rfl)) rfl ?_);clear S;intro a S
       refine s_want S rfl rfl rfl rfl hb10 (s_lv0 S (rn_neq (S.tm rfl) rfl) rfl ?_);clear S;intro a S
       refine s_lv S rfl (rn_pick_c hb10 (S.tm rfl) (S.tm rfl)) rfl ?_;clear S;intro a S
       refine s_lv S rfl (Rm (S.tm rfl)) rfl ?_;clear S;intro a S
       iterate 13 (refine s_skip S rfl rfl rfl rfl (neq_t hb12) rfl ?_ rfl;clear S;intro a S)
       refine s_lv S rfl (rn_pick_b hb12 (S.tm rfl) rfl) rfl ?_;clear S;intro a S
       refine s_done ?_
       replace S := S.nk [.blk Ab [Aa] 26, .own Aa 38 3 Ag.length (Ag.flatMap GSwimmer.enc)] [(1, .pointer (some ⟨Ab, 0, none⟩)), (4, u1), (6, v2), (81, bV true)] [true, true] rfl (subR rfl)
       refine Tn ?_
       exact ⟨true, h, S.nf [true, true] rfl (subR rfl)⟩
      ·replace h := iteF h hb12
       obtain ⟨hc26, h⟩ := chkE h
       obtain ⟨hc27, h⟩ := chkE h
       obtain ⟨hc28, h⟩ := chkE h
       obtain ⟨hc29, h⟩ := chkE h
       obtain ⟨hc30, h⟩ := chkE h
       obtain ⟨r6, hr45, h⟩ := bindE h
       refine d_region [] ([]) Tryz.mixed S rfl (by kernel_rfl) ?_;clear S;intro w21 hk20 hsel S
       refine d_quiet 0 S hsel rfl rfl rfl (by kernel_rfl) (by kernel_rfl) rfl (fun _ hw => (Rm (S.tm rfl))) ?_;clear S;intro a S
       refine d_quiet 1 S hsel rfl rfl rfl (by kernel_rfl) (by kernel_rfl) rfl (fun _ hw => (rn_lenT sl_65 (S.tm rfl) (slc_len (ownV_slcT enc_str hs2)))) ?_;clear S;intro a S
       refine d_quiet 2 S hsel rfl rfl rfl (by kernel_rfl) (by kernel_rfl) rfl (fun _ hw => (rn_neq (S.tm rfl) rfl)) ?_;clear S;intro a S
       refine d_quiet 3 S hsel rfl rfl rfl (by kernel_rfl) (by kernel_rfl) rfl (fun _ hw => (Rm (S.tm rfl))) ?_;clear S;intro a S
       refine d_skip 4 S hsel rfl rfl rfl rfl (neq_t hb5) rfl (by kernel_rfl) (by kernel_rfl) rfl ?_;clear S;intro a S
       refine d_skip 5 S hsel rfl rfl rfl rfl (neq_t hb5) rfl (by kernel_rfl) (by kernel_rfl) rfl ?_;clear S;intro a S
       refine d_skip 6 S hsel rfl rfl rfl rfl (neq_t hb5) rfl (by kernel_rfl) (by kernel_rfl) rfl ?_;clear S;intro a S
       refine d_skip 7 S hsel rfl rfl rfl rfl (neq_t hb5) rfl (by kernel_rfl) (by kernel_rfl) rfl ?_;clear S;intro a S
       refine d_skip 8 S hsel rfl rfl rfl rfl (neq_t hb5) rfl (by kernel_rfl) (by kernel_rfl) rfl ?_;clear S;intro a S
       refine d_quiet 9 S hsel rfl rfl rfl (by kernel_rfl) (by kernel_rfl) rfl (fun _ hw => (rn_pick_b hb5 (S.tm rfl) rfl)) ?_;clear S;intro a S
       refine d_quiet 10 S hsel rfl rfl rfl (by kernel_rfl) (by kernel_rfl) rfl (fun _ hw => (Rm (S.tm rfl))) ?_;clear S;intro a S
       refine d_quiet_g 11 S hsel rfl rfl rfl rfl hb6 rfl rfl (by kernel_rfl) (by kernel_rfl) rfl (fun _ hw => (Rm (S.tm rfl))) ?_;clear S;intro a S
       obtain ⟨b40, o40, hm42, hr46⟩ := rn_indexT (a := a) (x := .tmp 54) (y := .const (iV 1)) (ty := 0) sl_65 ((ownV_slcT enc_str hs2).mono (S.le_new nil_sub)) (inB_get hc16).1 (inB_get hc16).2 (S.tm rfl) rfl
       refine d_quiet_g 12 S hsel rfl rfl rfl rfl hb6 rfl rfl (by kernel_rfl) (by kernel_rfl) rfl (fun _ hw => hr46 _) ?_;clear S;intro a S
       clear hr46
       refine d_quiet_g 13 S hsel rfl rfl rfl rfl hb6 rfl rfl (by kernel_rfl) (by kernel_rfl) rfl (fun _ hw => (rn_ld Tryz.isAgg9 (off := o40) (o := 0) (S.tm rfl) (hm42.kept hw) rfl)) ?_;clear S;intro a S
       refine d_quiet_g 14 S hsel rfl rfl rfl rfl hb6 rfl rfl (by kernel_rfl) (by kernel_rfl) rfl (fun _ hw => (rn_len_str Tryz.underlying9 (S.tm rfl))) ?_;clear S;intro a S
       refine d_quiet_g 15 S hsel rfl rfl rfl rfl hb6 rfl rfl (by kernel_rfl) (by kernel_rfl) rfl (fun _ hw => (rn_neq (S.tm rfl) rfl)) ?_;clear S;intro a S
       refine d_quiet 16 S hsel rfl rfl rfl (by kernel_rfl) (by kernel_rfl) rfl (fun _ hw => (rn_pick_c hb6 (S.tm rfl) (S.tm rfl))) ?_;clear S;intro a S
       refine d_quiet 17 S hsel rfl rfl rfl (by kernel_rfl) (by kernel_rfl) rfl (fun _ hw => (Rm (S.tm rfl))) ?_;clear S;intro a S
       refine d_quiet_g 18 S hsel rfl rfl rfl rfl hb10 rfl rfl (by kernel_rfl) (by kernel_rfl) rfl (fun _ hw => (Rm (S.tm rfl))) ?_;clear S;intro a S
       obtain ⟨b41, o41, hm43, hr47⟩ := rn_indexT (a := a) (x := .tmp 61) (y := .const (iV 2)) (ty := 0) sl_65 ((ownV_slcT enc_str hs2).mono (S.le_new nil_sub)) (inB_get hc23).1 (inB_get hc23).2 (S.tm rfl) rfl
       refine d_quiet_g 19 S hsel rfl rfl rfl rfl hb10 rfl rfl (by kernel_rfl) (by kernel_rfl) rfl (fun _ hw => hr47 _) ?_;clear S;intro a S
       clear hr47
       refine d_quiet_g 20 S hsel rfl rfl rfl rfl hb10 rfl rfl (by kernel_rfl) (by kernel_rfl) rfl (fun _ hw => (rn_ld Tryz.isAgg9 (off := o41) (o := 0) (S.tm rfl) (hm43.kept hw) rfl)) ?_;clear S;intro a S
       refine d_quiet_g 21 S hsel rfl rfl rfl rfl hb10 rfl rfl (by kernel_rfl) (by kernel_rfl) rfl (fun _ hw => (rn_len_str Tryz.underlying9 (S.tm rfl))) ?_;clear S;intro a S
       refine d_quiet_g 22 S hsel rfl rfl rfl rfl hb10 rfl rfl (by kernel_rfl) (by kernel_rfl) rfl (fun _ hw => (rn_neq (S.tm rfl) rfl)) ?_;clear S;intro a S
       refine d_quiet 23 S hsel rfl rfl rfl (by kernel_rfl) (by kernel_rfl) rfl (fun _ hw => (rn_pick_c hb10 (S.tm rfl) (S.tm rfl))) ?_;clear S;intro a S
       refine d_quiet 24 S hsel rfl rfl rfl (by kernel_rfl) (by kernel_rfl) rfl (fun _ hw => (Rm (S.tm rfl))) ?_;clear S;intro a S
       refine d_quiet_g 25 S hsel rfl rfl rfl rfl hb12 rfl rfl (by kernel_rfl) (by kernel_rfl) rfl (fun _ hw => (Rm (S.tm rfl))) ?_;clear S;intro a S
       obtain ⟨b42, o42, hm44, hr48⟩ := rn_indexT (a := a) (x := .tmp 68) (y := .const (iV 0)) (ty := 0) sl_65 ((ownV_slcT enc_str hs2).mono (S.le_new nil_sub)) (inB_get hc26).1 (inB_get hc26).2 (S.tm rfl) rfl
       refine d_quiet_g 26 S hsel rfl rfl rfl rfl hb12 rfl rfl (by kernel_rfl) (by kernel_rfl) rfl (fun _ hw => hr48 _) ?_;clear S;intro a S
       clear hr48
       refine d_quiet_g 27 S hsel rfl rfl rfl rfl hb12 rfl rfl (by kernel_rfl) (by kernel_rfl) rfl (fun _ hw => (rn_ld Tryz.isAgg9 (off := o42) (o := 0) (S.tm rfl) (hm44.kept hw) rfl)) ?_;clear S;intro a S
       refine d_quiet_g 28 S hsel rfl rfl rfl rfl hb12 rfl rfl (by kernel_rfl) (by kernel_rfl) rfl (fun _ hw => (Rm (S.tm rfl))) ?_;clear S;intro a S
       obtain ⟨b43, o43, hm45, hr49⟩ := rn_indexT (a := a) (x := .tmp 71) (y := .const (iV 1)) (ty := 0) sl_65 ((ownV_slcT enc_str hs2).mono (S.le_new nil_sub)) (inB_get hc27).1 (inB_get hc27).2 (S.tm rfl) rfl
       refine d_quiet_g 29 S hsel rfl rfl rfl rfl hb12 rfl rfl (by kernel_rfl) (by kernel_rfl) rfl (fun _ hw => hr49 _) ?_;clear S;intro a S
       clear hr49
       refine d_quiet_g 30 S hsel rfl rfl rfl rfl hb12 rfl rfl (by kernel_rfl) (by kernel_rfl) rfl (fun _ hw => (rn_ld Tryz.isAgg9 (off := o43) (o := 0) (S.tm rfl) (hm45.kept hw) rfl)) ?_;clear S;intro a S
       refine d_quiet_g 31 S hsel rfl rfl rfl rfl hb12 rfl rfl (by kernel_rfl) (by kernel_rfl) rfl (fun _ hw => (rn_sadd (m := (nth r2 0)) (n := (nth r2 1)) (S.tm rfl) (S.tm rfl) (by have := room_lt hc28;omega))) ?_;clear S;intro a S
       refine d_quiet_g 32 S hsel rfl rfl rfl rfl hb12 rfl rfl (by kernel_rfl) (by kernel_rfl) rfl (fun _ hw => (Rm (S.tm rfl))) ?_;clear S;intro a S
       obtain ⟨b44, o44, hm46, hr50⟩ := rn_indexT (a := a) (x := .tmp 75) (y := .const (iV 2)) (ty := 0) sl_65 ((ownV_slcT enc_str hs2).mono (S.le_new nil_sub)) (inB_get hc29).1 (inB_get hc29).2 (S.tm rfl) rfl
       refine d_quiet_g 33 S hsel rfl rfl rfl rfl hb12 rfl rfl (by kernel_rfl) (by kernel_rfl) rfl (fun _ hw => hr50 _) ?_;clear S;intro a S
       clear hr50
       refine d_quiet_g 34 S hsel rfl rfl rfl rfl hb12 rfl rfl (by kernel_rfl) (by kernel_rfl) rfl (fun _ hw => (rn_ld Tryz.isAgg9 (off := o44) (o := 0) (S.tm rfl) (hm46.kept hw) rfl)) ?_;clear S;intro a S
       refine d_quiet_g 35 S hsel rfl rfl rfl rfl hb12 rfl rfl (by kernel_rfl) (by kernel_rfl) rfl (fun _ hw => (rn_sadd (m := ((nth r2 0) ++ (nth r2 1))) (n := (nth r2 2)) (S.tm rfl) (S.tm rfl) (by have := room_lt hc30;omega))) ?_;clear S;intro a S
       refine d_loud1 36 (by kernel_rfl) rfl (l_want S rfl rfl rfl hb12 (l_enter S (fun _ => run_call (vs := [sV (((nth r2 0) ++ (nth r2 1)) ++ (nth r2 2)), sV k_0123456789]) ⟨(S.tm rfl), rfl, trivial⟩ Tryz.call40) (tumbref2_only_ok _ (((nth r2 0) ++ (nth r2 1)) ++ (nth r2 2)) k_0123456789 _ hr45) rfl ?_));clear S;intro v10 a w22 hv10 hk21 hn10 S
       subst hv10
       refine Ld (d_next hk21 (d_rest [37, 38] hsel (by kernel_rfl) rfl ?_))
       clear hsel
       refine s_want S rfl rfl rfl rfl hb12 (s_lv0 S (rn_not (S.tm rfl)) rfl ?_);clear S;intro a S
       refine s_lv S rfl (rn_pick_c hb12 (S.tm rfl) (S.tm rfl)) rfl ?_;clear S;intro a S
       refine s_done ?_
       replace S := S.nk [.blk Ab [Aa] 26, .own Aa 38 3 Ag.length (Ag.flatMap GSwimmer.enc)] [(1, .pointer (some ⟨Ab, 0, none⟩)), (4, u1), (6, v2), (81, bV (!r6))] [true, true] rfl (subR rfl)
       refine Tn ?_
       exact ⟨!r6, h, S.nf [true, true] rfl (subR rfl)⟩
   ·replace h := iteF h hb5
    obtain ⟨hc31, h⟩ := chkE h
    rcases Bool.eq_false_or_eq_true (!decide (((nth r2 0).size : Int) = 4)) with hb13 | hb13
    ·replace h := iteT h hb13
     rcases Bool.eq_false_or_eq_true true with hb14 | hb14
     ·replace h := iteT h hb14
      rcases Bool.eq_false_or_eq_true true with hb15 | hb15
      ·replace h := iteT h hb15
       refine d_region [] ([]) Tryz.mixed S rfl (by kernel_rfl) ?_;clear S;intro w23 hk22 hsel S
       refine d_rest [0, 1, 2, 3, 4, 5, 6, 7, 8, 9, 10, 11, 12, 13, 14, 15, 16, 17, 18, 19, 20, 21, 22, 23, 24, 25, 26, 27, 28, 29, 30, 31, 32, 33, 34, 35, 36, 37, 38] hsel (by kernel_rfl) rfl ?_
       clear hsel
       refine s_lv S rfl (Rm (S.tm rfl)) rfl ?_;clear S;intro a S
       refine s_lv S rfl (rn_lenT sl_65 (S.tm rfl) (slc_len (ownV_slcT enc_str hs2))) rfl ?_;clear S;intro a S
       refine s_lv S rfl (rn_neq (S.tm rfl) rfl) rfl ?_;clear S;intro a S
       refine s_lv S rfl (Rm (S.tm rfl)) rfl ?_;clear S;intro a S
       refine s_want S rfl rfl rfl rfl hb5 (s_lv0 S (Rm (S.tm rfl)) rfl ?_);clear S;intro a S
       refine s_want S rfl rfl rfl rfl hb5 ?_
       obtain ⟨hc32, h⟩ := chkE h
       obtain ⟨b48, o48, hm50, hr54⟩ := rn_indexT (a := a) (x := .tmp 47) (y := .const (iV 0)) (ty := 0) sl_65 (ownV_slcT enc_str hs2) (inB_get hc32).1 (inB_get hc32).2 (S.tm rfl) rfl
       refine s_lv0 S (hr54 _) rfl ?_;clear S;intro a S
       clear hr54
       refine s_want S rfl rfl rfl rfl hb5 (s_lv0 S (rn_ld Tryz.isAgg9 (off := o48) (o := 0) (S.tm rfl) (hm50.at S.emb) rfl) rfl ?_);clear S;intro a S
       refine s_want S rfl rfl rfl rfl hb5 (s_lv0 S (rn_len_str Tryz.underlying9 (S.tm rfl)) rfl ?_);clear S;intro a S
       refine s_want S rfl rfl rfl rfl hb5 (s_lv0 S (rn_neq (S.tm rfl) rfl) rfl ?_);clear S;intro a S
       refine s_lv S rfl (rn_pick_c hb5 (S.tm rfl) (S.tm rfl)) rfl ?_;clear S;intro a S
       refine s_lv S rfl (Rm (S.tm rfl)) rfl ?_;clear S;intro a S
       iterate 5 (refine s_skip S rfl rfl rfl rfl (neq_t hb13) rfl ?_ rfl;clear S;intro a S)
       refine s_lv S rfl (rn_pick_b hb13 (S.tm rfl) rfl) rfl ?_;clear S;intro a S
       refine s_lv S rfl (Rm (S.tm rfl)) rfl ?_;clear S;intro a S
       iterate 5 (refine s_skip S rfl rfl rfl rfl (neq_t hb14) rfl ?_ rfl;clear S;intro a S)
       refine s_lv S rfl (rn_pick_b hb14 (S.tm rfl) rfl) rfl ?_;clear S;intro a S
       refine s_lv S rfl (Rm (S.tm rfl)) rfl ?_;clear S;intro a S
       iterate 13 (refine s_skip S rfl rfl rfl rfl (neq_t hb15) rfl ?_ rfl;clear S;intro a S)
       refine s_lv S rfl (rn_pick_b hb15 (S.tm rfl) rfl) rfl ?_;clear S;intro a S
       refine s_done ?_
       replace S := S.nk [.blk Ab [Aa] 26, .own Aa 38 3 Ag.length (Ag.flatMap GSwimmer.enc)] [(1, .pointer (some ⟨Ab, 0, none⟩)), (4, u1), (6, v2), (81, bV true)] [true, true] rfl (subR rfl)
       refine Tn ?_
       exact ⟨true, h, S.nf [true, true] rfl (subR rfl)⟩
      ·replace h := iteF h hb15
       obtain ⟨hc33, h⟩ := chkE h
       obtain ⟨hc34, h⟩ := chkE h
       obtain ⟨hc35, h⟩ := chkE h
       obtain ⟨hc36, h⟩ := chkE h
       obtain ⟨hc37, h⟩ := chkE h
       obtain ⟨r7, hr59, h⟩ := bindE h
       refine d_region [] ([]) Tryz.mixed S rfl (by kernel_rfl) ?_;clear S;intro w25 hk24 hsel S
       refine d_quiet 0 S hsel rfl rfl rfl (by kernel_rfl) (by kernel_rfl) rfl (fun _ hw => (Rm (S.tm rfl))) ?_;clear S;intro a S
       refine d_quiet 1 S hsel rfl rfl rfl (by kernel_rfl) (by kernel_rfl) rfl (fun _ hw => (rn_lenT sl_65 (S.tm rfl) (slc_len (ownV_slcT enc_str hs2)))) ?_;clear S;intro a S
       refine d_quiet 2 S hsel rfl rfl rfl (by kernel_rfl) (by kernel_rfl) rfl (fun _ hw => (rn_neq (S.tm rfl) rfl)) ?_;clear S;intro a S
       refine d_quiet 3 S hsel rfl rfl rfl (by kernel_rfl) (by kernel_rfl) rfl (fun _ hw => (Rm (S.tm rfl))) ?_;clear S;intro a S
       refine d_quiet_g 4 S hsel rfl rfl rfl rfl hb5 rfl rfl (by kernel_rfl) (by kernel_rfl) rfl (fun _ hw => (Rm (S.tm rfl))) ?_;clear S;intro a S
       obtain ⟨b53, o53, hm55, hr60⟩ := rn_indexT (a := a) (x := .tmp 47) (y := .const (iV 0)) (ty := 0) sl_65 ((ownV_slcT enc_str hs2).mono (S.le_new nil_sub)) (inB_get hc31).1 (inB_get hc31).2 (S.tm rfl) rfl
       refine d_quiet_g 5 S hsel rfl rfl rfl rfl hb5 rfl rfl (by kernel_rfl) (by kernel_rfl) rfl (fun _ hw => hr60 _) ?_;clear S;intro a S
       clear hr60
       refine d_quiet_g 6 S hsel rfl rfl rfl rfl hb5 rfl rfl (by kernel_rfl) (by kernel_rfl) rfl (fun _ hw => (rn_ld Tryz.isAgg9 (off := o53) (o := 0) (S.tm rfl) (hm55.kept hw) rfl)) ?_;clear S;intro a S
       refine d_quiet_g 7 S hsel rfl rfl rfl rfl hb5 rfl rfl (by kernel_rfl) (by kernel_rfl) rfl (fun _ hw => (rn_len_str Tryz.underlying9 (S.tm rfl))) ?_;clear S;intro a S
       refine d_quiet_g 8 S hsel rfl rfl rfl rfl hb5 rfl rfl (by kernel_rfl) (by kernel_rfl) rfl (fun _ hw => (rn_neq (S.tm rfl) rfl)) ?_;clear S;intro a S
       refine d_quiet 9 S hsel rfl rfl rfl (by kernel_rfl) (by kernel_rfl) rfl (fun _ hw => (rn_pick_c hb5 (S.tm rfl) (S.tm rfl))) ?_;clear S;intro a S
       refine d_quiet 10 S hsel rfl rfl rfl (by kernel_rfl) (by kernel_rfl) rfl (fun _ hw => (Rm (S.tm rfl))) ?_;clear S;intro a S
       refine d_skip 11 S hsel rfl rfl rfl rfl (neq_t hb13) rfl (by kernel_rfl) (by kernel_rfl) rfl ?_;clear S;intro a S
       refine d_skip 12 S hsel rfl rfl rfl rfl (neq_t hb13) rfl (by kernel_rfl) (by kernel_rfl) rfl ?_;clear S;intro a S
       refine d_skip 13 S hsel rfl rfl rfl rfl (neq_t hb13) rfl (by kernel_rfl) (by kernel_rfl) rfl ?_;clear S;intro a S
       refine d_skip 14 S hsel rfl rfl rfl rfl (neq_t hb13) rfl (by kernel_rfl) (by kernel_rfl) rfl ?_;clear S;intro a S
       refine d_skip 15 S hsel rfl rfl rfl rfl (neq_t hb13) rfl (by kernel_rfl) (by kernel_rfl) rfl ?_;clear S;intro a S
       refine d_quiet 16 S hsel rfl rfl rfl (by kernel_rfl) (by kernel_rfl) rfl (fun _ hw => (rn_pick_b hb13 (S.tm rfl) rfl)) ?_;clear S;intro a S
       refine d_quiet 17 S hsel rfl rfl rfl (by kernel_rfl) (by kernel_rfl) rfl (fun _ hw => (Rm (S.tm rfl))) ?_;clear S;intro a S
       refine d_skip 18 S hsel rfl rfl rfl rfl (neq_t hb14) rfl (by kernel_rfl) (by kernel_rfl) rfl ?_;clear S;intro a S
       refine d_skip 19 S hsel rfl rfl rfl rfl (neq_t hb14) rfl (by kernel_rfl) (by kernel_rfl) rfl ?_;clear S;intro a S
       refine d_skip 20 S hsel rfl rfl rfl rfl (neq_t hb14) rfl (by kernel_rfl) (by kernel_rfl) rfl ?_;clear S;intro a S
       refine d_skip 21 S hsel rfl rfl rfl rfl (neq_t hb14) rfl (by kernel_rfl) (by kernel_rfl) rfl ?_;clear S;intro a S
       refine d_skip 22 S hsel rfl rfl rfl rfl (neq_t hb14) rfl (by kernel_rfl) (by kernel_rfl) rfl ?_;clear S;intro a S
       refine d_quiet 23 S hsel rfl rfl rfl (by kernel_rfl) (by kernel_rfl) rfl (fun _ hw => (rn_pick_b hb14 (S.tm rfl) rfl)) ?_;clear S;intro a S
       refine d_quiet 24 S hsel rfl rfl rfl (by kernel_rfl) (by kernel_rfl) rfl (fun _ hw => (Rm (S.tm rfl))) ?_;clear S;intro a S
       refine d_quiet_g 25 S hsel rfl rfl rfl rfl hb15 rfl rfl (by kernel_rfl) (by kernel_rfl) rfl (fun _ hw => (Rm (S.tm rfl))) ?_;clear S;intro a S
       obtain ⟨b54, o54, hm56, hr61⟩ := rn_indexT (a := a) (x := .tmp 68) (y := .const (iV 0)) (ty := 0) sl_65 ((ownV_slcT enc_str hs2).mono (S.le_new nil_sub)) (inB_get hc33).1 (inB_get hc33).2 (S.tm rfl) rfl
       refine d_quiet_g 26 S hsel rfl rfl rfl rfl hb15 rfl rfl (by kernel_rfl) (by kernel_rfl) rfl (fun _ hw => hr61 _) ?_;clear S;intro a S
       clear hr61
       refine d_quiet_g 27 S hsel rfl rfl rfl rfl hb15 rfl rfl (by kernel_rfl) (by kernel_rfl) rfl (fun _ hw => (rn_ld Tryz.isAgg9 (off := o54) (o := 0) (S.tm rfl) (hm56.kept hw) rfl)) ?_;clear S;intro a S
       refine d_quiet_g 28 S hsel rfl rfl rfl rfl hb15 rfl rfl (by kernel_rfl) (by kernel_rfl) rfl (fun _ hw => (Rm (S.tm rfl))) ?_;clear S;intro a S
       obtain ⟨b55, o55, hm57, hr62⟩ := rn_indexT (a := a) (x := .tmp 71) (y := .const (iV 1)) (ty := 0) sl_65 ((ownV_slcT enc_str hs2).mono (S.le_new nil_sub)) (inB_get hc34).1 (inB_get hc34).2 (S.tm rfl) rfl
       refine d_quiet_g 29 S hsel rfl rfl rfl rfl hb15 rfl rfl (by kernel_rfl) (by kernel_rfl) rfl (fun _ hw => hr62 _) ?_;clear S;intro a S
       clear hr62
       refine d_quiet_g 30 S hsel rfl rfl rfl rfl hb15 rfl rfl (by kernel_rfl) (by kernel_rfl) rfl (fun _ hw => (rn_ld Tryz.isAgg9 (off := o55) (o := 0) (S.tm rfl) (hm57.kept hw) rfl)) ?_;clear S;intro a S
       refine d_quiet_g 31 S hsel rfl rfl rfl rfl hb15 rfl rfl (by kernel_rfl) (by kernel_rfl) rfl (fun _ hw => (rn_sadd (m := (nth r2 0)) (n := (nth r2 1)) (S.tm rfl) (S.tm rfl) (by have := room_lt hc35;omega))) ?_;clear S;intro a S
       refine d_quiet_g 32 S hsel rfl rfl rfl rfl hb15 rfl rfl (by kernel_rfl) (by kernel_rfl) rfl (fun _ hw => (Rm (S.tm rfl))) ?_;clear S;intro a S
       obtain ⟨b56, o56, hm58, hr63⟩ := rn_indexT (a := a) (x := .tmp 75) (y := .const (iV 2)) (ty := 0) sl_65 ((ownV_slcT enc_str hs2).mono (S.le_new nil_sub)) (inB_get hc36).1 (inB_get hc36).2 (S.tm rfl) rfl
       refine d_quiet_g 33 S hsel rfl rfl rfl rfl hb15 rfl rfl (by kernel_rfl) (by kernel_rfl) rfl (fun _ hw => hr63 _) ?_;clear S;intro a S
       clear hr63
       refine d_quiet_g 34 S hsel rfl rfl rfl rfl hb15 rfl rfl (by kernel_rfl) (by kernel_rfl) rfl (fun _ hw => (rn_ld Tryz.isAgg9 (off := o56) (o := 0) (S.tm rfl) (hm58.kept hw) rfl)) ?_;clear S;intro a S
       refine d_quiet_g 35 S hsel rfl rfl rfl rfl hb15 rfl rfl (by kernel_rfl) (by kernel_rfl) rfl (fun _ hw => (rn_sadd (m := ((nth r2 0) ++ (nth r2 1))) (n := (nth r2 2)) (S.tm rfl) (S.tm rfl) (by have := room_lt hc37;omega))) ?_;clear S;intro a S
       refine d_loud1 36 (by kernel_rfl) rfl (l_want S rfl rfl rfl hb15 (l_enter S (fun _ => run_call (vs := [sV (((nth r2 0) ++ (nth r2 1)) ++ (nth r2 2)), sV k_0123456789]) ⟨(S.tm rfl), rfl, trivial⟩ Tryz.call40) (tumbref2_only_ok _ (((nth r2 0) ++ (nth r2 1)) ++ (nth r2 2)) k_0123456789 _ hr59) rfl ?_));clear S;intro v12 a w26 hv12 hk25 hn12 S
       subst hv12
       refine Ld (d_next hk25 (d_rest [37, 38] hsel (by kernel_rfl) rfl ?_))
       clear hsel
       refine s_want S rfl rfl rfl rfl hb15 (s_lv0 S (rn_not (S.tm rfl)) rfl ?_);clear S;intro a S
       refine s_lv S rfl (rn_pick_c hb15 (S.tm rfl) (S.tm rfl)) rfl ?_;clear S;intro a S
       refine s_done ?_
       replace S := S.nk [.blk Ab [Aa] 26, .own Aa 38 3 Ag.length (Ag.flatMap GSwimmer.enc)] [(1, .pointer (some ⟨Ab, 0, none⟩)), (4, u1), (6, v2), (81, bV (!r7))] [true, true] rfl (subR rfl)
       refine Tn ?_
       exact ⟨!r7, h, S.nf [true, true] rfl (subR rfl)⟩
     ·replace h := iteF h hb14
      obtain ⟨hc38, h⟩ := chkE h
      rcases Bool.eq_false_or_eq_true (!decide (((nth r2 2).size : Int) = 2)) with hb16 | hb16
      ·replace h := iteT h hb16
       refine d_region [] ([]) Tryz.mixed S rfl (by kernel_rfl) ?_;clear S;intro w27 hk26 hsel S
       refine d_rest [0, 1, 2, 3, 4, 5, 6, 7, 8, 9, 10, 11, 12, 13, 14, 15, 16, 17, 18, 19, 20, 21, 22, 23, 24, 25, 26, 27, 28, 29, 30, 31, 32, 33, 34, 35, 36, 37, 38] hsel (by kernel_rfl) rfl ?_
       clear hsel
       refine s_lv S rfl (Rm (S.tm rfl)) rfl ?_;clear S;intro a S
       refine s_lv S rfl (rn_lenT sl_65 (S.tm rfl) (slc_len (ownV_slcT enc_str hs2))) rfl ?_;clear S;intro a S
       refine s_lv S rfl (rn_neq (S.tm rfl) rfl) rfl ?_;clear S;intro a S
       refine s_lv S rfl (Rm (S.tm rfl)) rfl ?_;clear S;intro a S
       refine s_want S rfl rfl rfl rfl hb5 (s_lv0 S (Rm (S.tm rfl)) rfl ?_);clear S;intro a S
       refine s_want S rfl rfl rfl rfl hb5 ?_
       obtain ⟨hc39, h⟩ := chkE h
       obtain ⟨b59, o59, hm61, hr66⟩ := rn_indexT (a := a) (x := .tmp 47) (y := .const (iV 0)) (ty := 0) sl_65 (ownV_slcT enc_str hs2) (inB_get hc39).1 (inB_get hc39).2 (S.tm rfl) rfl
       refine s_lv0 S (hr66 _) rfl ?_;clear S;intro a S
       clear hr66
       refine s_want S rfl rfl rfl rfl hb5 (s_lv0 S (rn_ld Tryz.isAgg9 (off := o59) (o := 0) (S.tm rfl) (hm61.at S.emb) rfl) rfl ?_);clear S;intro a S
       refine s_want S rfl rfl rfl rfl hb5 (s_lv0 S (rn_len_str Tryz.underlying9 (S.tm rfl)) rfl ?_);clear S;intro a S
       refine s_want S rfl rfl rfl rfl hb5 (s_lv0 S (rn_neq (S.tm rfl) rfl) rfl ?_);clear S;intro a S
       refine s_lv S rfl (rn_pick_c hb5 (S.tm rfl) (S.tm rfl)) rfl ?_;clear S;intro a S
       refine s_lv S rfl (Rm (S.tm rfl)) rfl ?_;clear S;intro a S
       iterate 5 (refine s_skip S rfl rfl rfl rfl (neq_t hb13) rfl ?_ rfl;clear S;intro a S)
       refine s_lv S rfl (rn_pick_b hb13 (S.tm rfl) rfl) rfl ?_;clear S;intro a S
       refine s_lv S rfl (Rm (S.tm rfl)) rfl ?_;clear S;intro a S
       refine s_want S rfl rfl rfl rfl hb14 (s_lv0 S (Rm (S.tm rfl)) rfl ?_);clear S;intro a S
       refine s_want S rfl rfl rfl rfl hb14 ?_
       obtain ⟨hc40, h⟩ := chkE h
       obtain ⟨b60, o60, hm62, hr67⟩ := rn_indexT (a := a) (x := .tmp 61) (y := .const (iV 2)) (ty := 0) sl_65 (ownV_slcT enc_str hs2) (inB_get hc40).1 (inB_get hc40).2 (S.tm rfl) rfl
       refine s_lv0 S (hr67 _) rfl ?_;clear S;intro a S
       clear hr67
       refine s_want S rfl rfl rfl rfl hb14 (s_lv0 S (rn_ld Tryz.isAgg9 (off := o60) (o := 0) (S.tm rfl) (hm62.at S.emb) rfl) rfl ?_);clear S;intro a S
       refine s_want S rfl rfl rfl rfl hb14 (s_lv0 S (rn_len_str Tryz.underlying9 (S.tm rfl)) rfl ?_);clear S;intro a S
       refine s_want S rfl rfl rfl rfl hb14 (s_lv0 S (rn_neq (S.tm rfl) rfl) rfl ?_);clear S;intro a S
       refine s_lv S rfl (rn_pick_c hb14 (S.tm rfl) (S.tm rfl)) rfl ?_;clear S;intro a S
       refine s_lv S rfl (Rm (S.tm rfl)) rfl ?_;clear S;intro a S
       iterate 13 (refine s_skip S rfl rfl rfl rfl (neq_t hb16) rfl ?_ rfl;clear S;intro a S)
       refine s_lv S rfl (rn_pick_b hb16 (S.tm rfl) rfl) rfl ?_;clear S;intro a S
       refine s_done ?_
       replace S := S.nk [.blk Ab [Aa] 26, .own Aa 38 3 Ag.length (Ag.flatMap GSwimmer.enc)] [(1, .pointer (some ⟨Ab, 0, none⟩)), (4, u1), (6, v2), (81, bV true)] [true, true] rfl (subR rfl)
       refine Tn ?_
       exact ⟨true, h, S.nf [true, true] rfl (subR rfl)⟩
      ·replace h := iteF h hb16
       obtain ⟨hc41, h⟩ := chkE h
       obtain ⟨hc42, h⟩ := chkE h
       obtain ⟨hc43, h⟩ := chkE h
       obtain ⟨hc44, h⟩ := chkE h
       obtain ⟨hc45, h⟩ := chkE h
       obtain ⟨r8, hr73, h⟩ := bindE h
       refine d_region [] ([]) Tryz.mixed S rfl (by kernel_rfl) ?_;clear S;intro w29 hk28 hsel S
       refine d_quiet 0 S hsel rfl rfl rfl (by kernel_rfl) (by kernel_rfl) rfl (fun _ hw => (Rm (S.tm rfl))) ?_;clear S;intro a S
       refine d_quiet 1 S hsel rfl rfl rfl (by kernel_rfl) (by kernel_rfl) rfl (fun _ hw => (rn_lenT sl_65 (S.tm rfl) (slc_len (ownV_slcT enc_str hs2)))) ?_;clear S;intro a S
       refine d_quiet 2 S hsel rfl rfl rfl (by kernel_rfl) (by kernel_rfl) rfl (fun _ hw => (rn_neq (S.tm rfl) rfl)) ?_;clear S;intro a S
       refine d_quiet 3 S hsel rfl rfl rfl (by kernel_rfl) (by kernel_rfl) rfl (fun _ hw => (Rm (S.tm rfl))) ?_;clear S;intro a S
       refine d_quiet_g 4 S hsel rfl rfl rfl rfl hb5 rfl rfl (by kernel_rfl) (by kernel_rfl) rfl (fun _ hw => (Rm (S.tm rfl))) ?_;clear S;intro a S
       obtain ⟨b66, o66, hm68, hr74⟩ := rn_indexT (a := a) (x := .tmp 47) (y := .const (iV 0)) (ty := 0) sl_65 ((ownV_slcT enc_str hs2).mono (S.le_new nil_sub)) (inB_get hc31).1 (inB_get hc31).2 (S.tm rfl) rfl
       refine d_quiet_g 5 S hsel rfl rfl rfl rfl hb5 rfl rfl (by kernel_rfl) (by kernel_rfl) rfl (fun _ hw => hr74 _) ?_;clear S;intro a S
       clear hr74
       refine d_quiet_g 6 S hsel rfl rfl rfl rfl hb5 rfl rfl (by kernel_rfl) (by kernel_rfl) rfl (fun _ hw => (rn_ld Tryz.isAgg9 (off := o66) (o := 0) (S.tm rfl) (hm68.kept hw) rfl)) ?_;clear S;intro a S
       refine d_quiet_g 7 S hsel rfl rfl rfl rfl hb5 rfl rfl (by kernel_rfl) (by kernel_rfl) rfl (fun _ hw => (rn_len_str Tryz.underlying9 (S.tm rfl))) ?_;clear S;intro a S
       refine d_quiet_g 8 S hsel rfl rfl rfl rfl hb5 rfl rfl (by kernel_rfl) (by kernel_rfl) rfl (fun _ hw => (rn_neq (S.tm rfl) rfl)) ?_;clear S;intro a S
       refine d_quiet 9 S hsel rfl rfl rfl (by kernel_rfl) (by kernel_rfl) rfl (fun _ hw => (rn_pick_c hb5 (S.tm rfl) (S.tm rfl))) ?_;clear S;intro a S
       refine d_quiet 10 S hsel rfl rfl rfl (by kernel_rfl) (by kernel_rfl) rfl (fun _ hw => (Rm (S.tm rfl))) ?_;clear S;intro a S
       refine d_skip 11 S hsel rfl rfl rfl rfl (neq_t hb13) rfl (by kernel_rfl) (by kernel_rfl) rfl ?_;clear S;intro a S
       refine d_skip 12 S hsel rfl rfl rfl rfl (neq_t hb13) rfl (by kernel_rfl) (by kernel_rfl) rfl ?_;clear S;intro a S
       refine d_skip 13 S hsel rfl rfl rfl rfl (neq_t hb13) rfl (by kernel_rfl) (by kernel_rfl) rfl ?_;clear S;intro a S
       refine d_skip 14 S hsel rfl rfl rfl rfl (neq_t hb13) rfl (by kernel_rfl) (by kernel_rfl) rfl ?_;clear S;intro a S
       refine d_skip 15 S hsel rfl rfl rfl rfl (neq_t hb13) rfl (by kernel_rfl) (by kernel_rfl) rfl ?_;clear S;intro a S
       refine d_quiet 16 S hsel rfl rfl rfl (by kernel_rfl) (by kernel_rfl) rfl (fun _ hw => (rn_pick_b hb13 (S.tm rfl) rfl)) ?_;clear S;intro a S
       refine d_quiet 17 S hsel rfl rfl rfl (by kernel_rfl) (by kernel_rfl) rfl (fun _ hw => (Rm (S.tm rfl))) ?_;clear S;intro a S
       refine d_quiet_g 18 S hsel rfl rfl rfl rfl hb14 rfl rfl (by kernel_rfl) (by kernel_rfl) rfl (fun _ hw => (Rm (S.tm rfl))) ?_;clear S;intro a S
       obtain ⟨b67, o67, hm69, hr75⟩ := rn_indexT (a := a) (x := .tmp 61) (y := .const (iV 2)) (ty := 0) sl_65 ((ownV_slcT enc_str hs2).mono (S.le_new nil_sub)) (inB_get hc38).1 (inB_get hc38).2 (S.tm rfl) rfl
       refine d_quiet_g 19 S hsel rfl rfl rfl rfl hb14 rfl rfl (by kernel_rfl) (by kernel_rfl) rfl (fun _ hw => hr75 _) ?_;clear S;intro a S
       clear hr75
       refine d_quiet_g 20 S hsel rfl rfl rfl rfl hb14 rfl rfl (by kernel_rfl) (by kernel_rfl) rfl (fun _ hw => (rn_ld Tryz.isAgg9 (off := o67) (o := 0) (S.tm rfl) (hm69.kept hw) rfl)) ?_;clear S;intro a S
       refine d_quiet_g 21 S hsel rfl rfl rfl rfl hb14 rfl rfl (by kernel_rfl) (by kernel_rfl) rfl (fun _ hw => (rn_len_str Tryz.underlying9 (S.tm rfl))) ?_;clear S;intro a S
       refine d_quiet_g 22 S hsel rfl rfl rfl rfl hb14 rfl rfl (by kernel_rfl) (by kernel_rfl) rfl (fun _ hw => (rn_neq (S.tm rfl) rfl)) ?_;clear S;intro a S
       refine d_quiet 23 S hsel rfl rfl rfl (by kernel_rfl) (by kernel_rfl) rfl (fun _ hw => (rn_pick_c hb14 (S.tm rfl) (S.tm rfl))) ?_;clear S;intro a S
       refine d_quiet 24 S hsel rfl rfl rfl (by kernel_rfl) (by kernel_rfl) rfl (fun _ hw => (Rm (S.tm rfl))) ?_;clear S;intro a S
       refine d_quiet_g 25 S hsel rfl rfl rfl rfl hb16 rfl rfl (by kernel_rfl) (by kernel_rfl) rfl (fun _ hw => (Rm (S.tm rfl))) ?_;clear S;intro a S
       obtain ⟨b68, o68, hm70, hr76⟩ := rn_indexT (a := a) (x := .tmp 68) (y := .const (iV 0)) (ty := 0) sl_65 ((ownV_slcT enc_str hs2).mono (S.le_new nil_sub)) (inB_get hc41).1 (inB_get hc41).2 (S.tm rfl) rfl
       refine d_quiet_g 26 S hsel rfl rfl rfl rfl hb16 rfl rfl (by kernel_rfl) (by kernel_rfl) rfl (fun _ hw => hr76 _) ?_;clear S;intro a S
       clear hr76
       refine d_quiet_g 27 S hsel rfl rfl rfl rfl hb16 rfl rfl (by kernel_rfl) (by kernel_rfl) rfl (fun _ hw => (rn_ld Tryz.isAgg9 (off := o68) (o := 0) (S.tm rfl) (hm70.kept hw) rfl)) ?_;clear S;intro a S
       refine d_quiet_g 28 S hsel rfl rfl rfl rfl hb16 rfl rfl (by kernel_rfl) (by kernel_rfl) rfl (fun _ hw => (Rm (S.tm rfl))) ?_;clear S;intro a S
       obtain ⟨b69, o69, hm71, hr77⟩ := rn_indexT (a := a) (x := .tmp 71) (y := .const (iV 1)) (ty := 0) sl_65 ((ownV_slcT enc_str hs2).mono (S.le_new nil_sub)) (inB_get hc42).1 (inB_get hc42).2 (S.tm rfl) rfl
       refine d_quiet_g 29 S hsel rfl rfl rfl rfl hb16 rfl rfl (by kernel_rfl) (by kernel_rfl) rfl (fun _ hw => hr77 _) ?_;clear S;intro a S
       clear hr77
       refine d_quiet_g 30 S hsel rfl rfl rfl rfl hb16 rfl rfl (by kernel_rfl) (by kernel_rfl) rfl (fun _ hw => (rn_ld Tryz.isAgg9 (off := o69) (o := 0) (S.tm rfl) (hm71.kept hw) rfl)) ?_;clear S;intro a S
       refine d_quiet_g 31 S hsel rfl rfl rfl rfl hb16 rfl rfl (by kernel_rfl) (by kernel_rfl) rfl (fun _ hw => (rn_sadd (m := (nth r2 0)) (n := (nth r2 1)) (S.tm rfl) (S.tm rfl) (by have := room_lt hc43;omega))) ?_;clear S;intro a S
       refine d_quiet_g 32 S hsel rfl rfl rfl rfl hb16 rfl rfl (by kernel_rfl) (by kernel_rfl) rfl (fun _ hw => (Rm (S.tm rfl))) ?_;clear S;intro a S
       obtain ⟨b70, o70, hm72, hr78⟩ := rn_indexT (a := a) (x := .tmp 75) (y := .const (iV 2)) (ty := 0) sl_65 ((ownV_slcT enc_str hs2).mono (S.le_new nil_sub)) (inB_get hc44).1 (inB_get hc44).2 (S.tm rfl) rfl
       refine d_quiet_g 33 S hsel rfl rfl rfl rfl hb16 rfl rfl (by kernel_rfl) (by kernel_rfl) rfl (fun _ hw => hr78 _) ?_;clear S;intro a S
       clear hr78
       refine d_quiet_g 34 S hsel rfl rfl rfl rfl hb16 rfl rfl (by kernel_rfl) (by kernel_rfl) rfl (fun _ hw => (rn_ld Tryz.isAgg9 (off := o70) (o := 0) (S.tm rfl) (hm72.kept hw) rfl)) ?_;clear S;intro a S
       refine d_quiet_g 35 S hsel rfl rfl rfl rfl hb16 rfl rfl (by kernel_rfl) (by kernel_rfl) rfl (fun _ hw => (rn_sadd (m := ((nth r2 0) ++ (nth r2 1))) (n := (nth r2 2)) (S.tm rfl) (S.tm rfl) (by have := room_lt hc45;omega))) ?_;clear S;intro a S
       refine d_loud1 36 (by kernel_rfl) rfl (l_want S rfl rfl rfl hb16 (l_enter S (fun _ => run_call (vs := [sV (((nth r2 0) ++ (nth r2 1)) ++ (nth r2 2)), sV k_0123456789]) ⟨(S.tm rfl), rfl, trivial⟩ Tryz.call40) (tumbref2_only_ok _ (((nth r2 0) ++ (nth r2 1)) ++ (nth r2 2)) k_0123456789 _ hr73) rfl ?_));clear S;intro v14 a w30 hv14 hk29 hn14 S
       subst hv14
       refine Ld (d_next hk29 (d_rest [37, 38] hsel (by kernel_rfl) rfl ?_))
       clear hsel
       refine s_want S rfl rfl rfl rfl hb16 (s_lv0 S (rn_not (S.tm rfl)) rfl ?_);clear S;intro a S
       refine s_lv S rfl (rn_pick_c hb16 (S.tm rfl) (S.tm rfl)) rfl ?_;clear S;intro a S
       refine s_done ?_
       replace S := S.nk [.blk Ab [Aa] 26, .own Aa 38 3 Ag.length (Ag.flatMap GSwimmer.enc)] [(1, .pointer (some ⟨Ab, 0, none⟩)), (4, u1), (6, v2), (81, bV (!r8))] [true, true] rfl (subR rfl)
       refine Tn ?_
       exact ⟨!r8, h, S.nf [true, true] rfl (subR rfl)⟩
    ·replace h := iteF h hb13
     obtain ⟨hc46, h⟩ := chkE h
     rcases Bool.eq_false_or_eq_true (!decide (((nth r2 1).size : Int) = 2)) with hb17 | hb17
     ·replace h := iteT h hb17
      rcases Bool.eq_false_or_eq_true true with hb18 | hb18
      ·replace h := iteT h hb18
       refine d_region [] ([]) Tryz.mixed S rfl (by kernel_rfl) ?_;clear S;intro w31 hk30 hsel S
       refine d_rest [0, 1, 2, 3, 4, 5, 6, 7, 8, 9, 10, 11, 12, 13, 14, 15, 16, 17, 18, 19, 20, 21, 22, 23, 24, 25, 26, 27, 28, 29, 30, 31, 32, 33, 34, 35, 36, 37, 38] hsel (by kernel_rfl) rfl ?_
       clear hsel
       refine s_lv S rfl (Rm (S.tm rfl)) rfl ?_;clear S;intro a S
       refine s_lv S rfl (rn_lenT sl_65 (S.tm rfl) (slc_len (ownV_slcT enc_str hs2))) rfl ?_;clear S;intro a S
       refine s_lv S rfl (rn_neq (S.tm rfl) rfl) rfl ?_;clear S;intro a S
       refine s_lv S rfl (Rm (S.tm rfl)) rfl ?_;clear S;intro a S
       refine s_want S rfl rfl rfl rfl hb5 (s_lv0 S (Rm (S.tm rfl)) rfl ?_);clear S;intro a S
       refine s_want S rfl rfl rfl rfl hb5 ?_
       obtain ⟨hc47, h⟩ := chkE h
       obtain ⟨b75, o75, hm77, hr83⟩ := rn_indexT (a := a) (x := .tmp 47) (y := .const (iV 0)) (ty := 0) sl_65 (ownV_slcT enc_str hs2) (inB_get hc47).1 (inB_get hc47).2 (S.tm rfl) rfl
       refine s_lv0 S (hr83 _) rfl ?_;clear S;intro a S
       clear hr83
       refine s_want S rfl rfl rfl rfl hb5 (s_lv0 S (rn_ld Tryz.isAgg9 (off := o75) (o := 0) (S.tm rfl) (hm77.at S.emb) rfl) rfl ?_);clear S;intro a S
       refine s_want S rfl rfl rfl rfl hb5 (s_lv0 S (rn_len_str Tryz.underlying9 (S.tm rfl)) rfl ?_);clear S;intro a S
       refine s_want S rfl rfl rfl rfl hb5 (s_lv0 S (rn_neq (S.tm rfl) rfl) rfl ?_);clear S;intro a S
       refine s_lv S rfl (rn_pick_c hb5 (S.tm rfl) (S.tm rfl)) rfl ?_;clear S;intro a S
       refine s_lv S rfl (Rm (S.tm rfl)) rfl ?_;clear S;intro a S
       refine s_want S rfl rfl rfl rfl hb13 (s_lv0 S (Rm (S.tm rfl)) rfl ?_);clear S;intro a S
       refine s_want S rfl rfl rfl rfl hb13 ?_
       obtain ⟨hc48, h⟩ := chkE h
       obtain ⟨b76, o76, hm78, hr84⟩ := rn_indexT (a := a) (x := .tmp 54) (y := .const (iV 1)) (ty := 0) sl_65 (ownV_slcT enc_str hs2) (inB_get hc48).1 (inB_get hc48).2 (S.tm rfl) rfl
       refine s_lv0 S (hr84 _) rfl ?_;clear S;intro a S
       clear hr84
       refine s_want S rfl rfl rfl rfl hb13 (s_lv0 S (rn_ld Tryz.isAgg9 (off := o76) (o := 0) (S.tm rfl) (hm78.at S.emb) rfl) rfl ?_);clear S;intro a S
       refine s_want S rfl rfl rfl rfl hb13 (s_lv0 S (rn_len_str Tryz.underlying9 (S.tm rfl)) rfl ?_);clear S;intro a S
       refine s_want S rfl rfl rfl rfl hb13 (s_lv0 S (rn_neq (S.tm rfl) rfl) rfl ?_);clear S;intro a S
       refine s_lv S rfl (rn_pick_c hb13 (S.tm rfl) (S.tm rfl)) rfl ?_;clear S;intro a S
       refine s_lv S rfl (Rm (S.tm rfl)) rfl ?_;clear S;intro a S
       iterate 5 (refine s_skip S rfl rfl rfl rfl (neq_t hb17) rfl ?_ rfl;clear S;intro a S)
       refine s_lv S rfl (rn_pick_b hb17 (S.tm rfl) rfl) rfl ?_;clear S;intro a S
       refine s_lv S rfl (Rm (S.tm rfl)) rfl ?_;clear S;intro a S
       iterate 13 (refine s_skip S rfl rfl rfl rfl (neq_t hb18) rfl ?_ rfl;clear S;intro a S)
       refine s_lv S rfl (rn_pick_b hb18 (S.tm rfl) rfl) rfl ?_;clear S;intro a S
       refine s_done ?_
       replace S := S.nk [.blk Ab [Aa] 26, .own Aa 38 3 Ag.length (Ag.flatMap GSwimmer.enc)] [(1, .pointer (some ⟨Ab, 0, none⟩)), (4, u1), (6, v2), (81, bV true)] [true, true] rfl (subR rfl)
       refine Tn ?_
       exact ⟨true, h, S.nf [true, true] rfl (subR rfl)⟩
      ·replace h := iteF h hb18
       obtain ⟨hc49, h⟩ := chkE h
       obtain ⟨hc50, h⟩ := chkE h
       obtain ⟨hc51, h⟩ := chkE h
       obtain ⟨hc52, h⟩ := chkE h
       obtain ⟨hc53, h⟩ := chkE h
       obtain ⟨r9, hr90, h⟩ := bindE h
       refine d_region [] ([]) Tryz.mixed S rfl (by kernel_rfl) ?_;clear S;intro w33 hk32 hsel S
       refine d_quiet 0 S hsel rfl rfl rfl (by kernel_rfl) (by kernel_rfl) rfl (fun _ hw => (Rm (S.tm rfl))) ?_;clear S;intro a S
       refine d_quiet 1 S hsel rfl rfl rfl (by kernel_rfl) (by kernel_rfl) rfl (fun _ hw => (rn_lenT sl_65 (S.tm rfl) (slc_len (ownV_slcT enc_str hs2)))) ?_;clear S;intro a S
       refine d_quiet 2 S hsel rfl rfl rfl (by kernel_rfl) (by kernel_rfl) rfl (fun _ hw => (rn_neq (S.tm rfl) rfl)) ?_;clear S;intro a S
       refine d_quiet 3 S hsel rfl rfl rfl (by kernel_rfl) (by kernel_rfl) rfl (fun _ hw => (Rm (S.tm rfl))) ?_;clear S;intro a S
       refine d_quiet_g 4 S hsel rfl rfl rfl rfl hb5 rfl rfl (by kernel_rfl) (by kernel_rfl) rfl (fun _ hw => (Rm (S.tm rfl))) ?_;clear S;intro a S
       obtain ⟨b82, o82, hm84, hr91⟩ := rn_indexT (a := a) (x := .tmp 47) (y := .const (iV 0)) (ty := 0) sl_65 ((ownV_slcT enc_str hs2).mono (S.le_new nil_sub)) (inB_get hc31).1 (inB_get hc31).2 (S.tm rfl) rfl
       refine d_quiet_g 5 S hsel rfl rfl rfl rfl hb5 rfl rfl (by kernel_rfl) (by kernel_rfl) rfl (fun _ hw => hr91 _) ?_;clear S;intro a S
       clear hr91
       refine d_quiet_g 6 S hsel rfl rfl rfl rfl hb5 rfl rfl (by kernel_rfl) (by kernel_rfl) rfl (fun _ hw => (rn_ld Tryz.isAgg9 (off := o82) (o := 0) (S.tm rfl) (hm84.kept hw) rfl)) ?_;clear S;intro a S
       refine d_quiet_g 7 S hsel rfl rfl rfl rfl hb5 rfl rfl (by kernel_rfl) (by kernel_rfl) rfl (fun _ hw => (rn_len_str Tryz.underlying9 (S.tm rfl))) ?_;clear S;intro a S
       refine d_quiet_g 8 S hsel rfl rfl rfl rfl hb5 rfl rfl (by kernel_rfl) (by kernel_rfl) rfl (fun _ hw => (rn_neq (S.tm rfl) rfl)) ?_;clear S;intro a S
       refine d_quiet 9 S hsel rfl rfl rfl (by kernel_rfl) (by kernel_rfl) rfl (fun _ hw => (rn_pick_c hb5 (S.tm rfl) (S.tm rfl))) ?_;clear S;intro a S
       refine d_quiet 10 S hsel rfl rfl rfl (by kernel_rfl) (by kernel_rfl) rfl (fun _ hw => (Rm (S.tm rfl))) ?_;clear S;intro a S
       refine d_quiet_g 11 S hsel rfl rfl rfl rfl hb13 rfl rfl (by kernel_rfl) (by kernel_rfl) rfl (fun _ hw => (Rm (S.tm rfl))) ?_;clear S;intro a S
       obtain ⟨b83, o83, hm85, hr92⟩ := rn_indexT (a := a) (x := .tmp 54) (y := .const (iV 1)) (ty := 0) sl_65 ((ownV_slcT enc_str hs2).mono (S.le_new nil_sub)) (inB_get hc46).1 (inB_get hc46).2 (S.tm rfl) rfl
       refine d_quiet_g 12 S hsel rfl rfl rfl rfl hb13 rfl rfl (by kernel_rfl) (by kernel_rfl) rfl (fun _ hw => hr92 _) ?_;clear S;intro a S
       clear hr92
       refine d_quiet_g 13 S hsel rfl rfl rfl rfl hb13 rfl rfl (by kernel_rfl) (by kernel_rfl) rfl (fun _ hw => (rn_ld Tryz.isAgg9 (off := o83) (o := 0) (S.tm rfl) (hm85.kept hw) rfl)) ?_;clear S;intro a S
       refine d_quiet_g 14 S hsel rfl rfl rfl rfl hb13 rfl rfl (by kernel_rfl) (by kernel_rfl) rfl (fun _ hw => (rn_len_str Tryz.underlying9 (S.tm rfl))) ?_;clear S;intro a S
       refine d_quiet_g 15 S hsel rfl rfl rfl rfl hb13 rfl rfl (by kernel_rfl) (by kernel_rfl) rfl (fun _ hw => (rn_neq (S.tm rfl) rfl)) ?_;clear S;intro a S
       refine d_quiet 16 S hsel rfl rfl rfl (by kernel_rfl) (by kernel_rfl) rfl (fun _ hw => (rn_pick_c hb13 (S.tm rfl) (S.tm rfl))) ?_;clear S;intro a S
       refine d_quiet 17 S hsel rfl rfl rfl (by kernel_rfl) (by kernel_rfl) rfl (fun _ hw => (Rm (S.tm rfl))) ?_;clear S;intro a S
       refine d_skip 18 S hsel rfl rfl rfl rfl (neq_t hb17) rfl (by kernel_rfl) (by kernel_rfl) rfl ?_;clear S;intro a S
       refine d_skip 19 S hsel rfl rfl rfl rfl (neq_t hb17) rfl (by kernel_rfl) (by kernel_rfl) rfl ?_;clear S;intro a S
       refine d_skip 20 S hsel rfl rfl rfl rfl (neq_t hb17) rfl (by kernel_rfl) (by kernel_rfl) rfl ?_;clear S;intro a S
       refine d_skip 21 S hsel rfl rfl rfl rfl (neq_t hb17) rfl (by kernel_rfl) (by kernel_rfl) rfl ?_;clear S;intro a S
       refine d_skip 22 S hsel rfl rfl rfl rfl (neq_t hb17) rfl (by kernel_rfl) (by kernel_rfl) rfl ?_;clear S;intro a S
       refine d_quiet 23 S hsel rfl rfl rfl (by kernel_rfl) (by kernel_rfl) rfl (fun _ hw => (rn_pick_b hb17 (S.tm rfl) rfl)) ?_;clear S;intro a S
       refine d_quiet 24 S hsel rfl rfl rfl (by kernel_rfl) (by kernel_rfl) rfl (fun _ hw => (Rm (S.tm rfl))) ?_;clear S;intro a S
       refine d_quiet_g 25 S hsel rfl rfl rfl rfl hb18 rfl rfl (by kernel_rfl) (by kernel_rfl) rfl (fun _ hw => (Rm (S.tm rfl))) ?_;clear S;intro a S
       obtain ⟨b84, o84, hm86, hr93⟩ := rn_indexT (a := a) (x := .tmp 68) (y := .const (iV 0)) (ty := 0) sl_65 ((ownV_slcT enc_str hs2).mono (S.le_new nil_sub)) (inB_get hc49).1 (inB_get hc49).2 (S.tm rfl) rfl
       refine d_quiet_g 26 S hsel rfl rfl rfl rfl hb18 rfl rfl (by kernel_rfl) (by kernel_rfl) rfl (fun _ hw => hr93 _) ?_;clear S;intro a S
       clear hr93
       refine d_quiet_g 27 S hsel rfl rfl rfl rfl hb18 rfl rfl (by kernel_rfl) (by kernel_rfl) rfl (fun _ hw => (rn_ld Tryz.isAgg9 (off := o84) (o := 0) (S.tm rfl) (hm86.kept hw) rfl)) ?_;clear S;intro a S
       refine d_quiet_g 28 S hsel rfl rfl rfl rfl hb18 rfl rfl (by kernel_rfl) (by kernel_rfl) rfl (fun _ hw => (Rm (S.tm rfl))) ?_;clear S;intro a S
       obtain ⟨b85, o85, hm87, hr94⟩ := rn_indexT (a := a) (x := .tmp 71) (y := .const (iV 1)) (ty := 0) sl_65 ((ownV_slcT enc_str hs2).mono (S.le_new nil_sub)) (inB_get hc50).1 (inB_get hc50).2 (S.tm rfl) rfl
       refine d_quiet_g 29 S hsel rfl rfl rfl rfl hb18 rfl rfl (by kernel_rfl) (by kernel_rfl) rfl (fun _ hw => hr94 _) ?_;clear S;intro a S
       clear hr94
       refine d_quiet_g 30 S hsel rfl rfl rfl rfl hb18 rfl rfl (by kernel_rfl) (by kernel_rfl) rfl (fun _ hw => (rn_ld Tryz.isAgg9 (off := o85) (o := 0) (S.tm rfl) (hm87.kept hw) rfl)) ?_;clear S;intro a S
       refine d_quiet_g 31 S hsel rfl rfl rfl rfl hb18 rfl rfl (by kernel_rfl) (by kernel_rfl) rfl (fun _ hw => (rn_sadd (m := (nth r2 0)) (n := (nth r2 1)) (S.tm rfl) (S.tm rfl) (by have := room_lt hc51;omega))) ?_;clear S;intro a S
       refine d_quiet_g 32 S hsel rfl rfl rfl rfl hb18 rfl rfl (by kernel_rfl) (by kernel_rfl) rfl (fun _ hw => (Rm (S.tm rfl))) ?_;clear S;intro a S
       obtain ⟨b86, o86, hm88, hr95⟩ := rn_indexT (a := a) (x := .tmp 75) (y := .const (iV 2)) (ty := 0) sl_65 ((ownV_slcT enc_str hs2).mono (S.le_new nil_sub)) (inB_get hc52).1 (inB_get hc52).2 (S.tm rfl) rfl
       refine d_quiet_g 33 S hsel rfl rfl rfl rfl hb18 rfl rfl (by kernel_rfl) (by kernel_rfl) rfl (fun _ hw => hr95 _) ?_;clear S;intro a S
       clear hr95
       refine d_quiet_g 34 S hsel rfl rfl rfl rfl hb18 rfl rfl (by kernel_rfl) (by kernel_rfl) rfl (fun _ hw => (rn_ld Tryz.isAgg9 (off := o86) (o := 0) (S.tm rfl) (hm88.kept hw) rfl)) ?_;clear S;intro a S
       refine d_quiet_g 35 S hsel rfl rfl rfl rfl hb18 rfl rfl (by kernel_rfl) (by kernel_rfl) rfl (fun _ hw => (rn_sadd (m := ((nth r2 0) ++ (nth r2 1))) (n := (nth r2 2)) (S.tm rfl) (S.tm rfl) (by have := room_lt hc53;omega))) ?_;clear S;intro a S
       refine d_loud1 36 (by kernel_rfl) rfl (l_want S rfl rfl rfl hb18 (l_enter S (fun _ => run_call (vs := [sV (((nth r2 0) ++ (nth r2 1)) ++ (nth r2 2)), sV k_0123456789]) ⟨(S.tm rfl), rfl, trivial⟩ Tryz.call40) (tumbref2_only_ok _ (((nth r2 0) ++ (nth r2 1)) ++ (nth r2 2)) k_0123456789 _ hr90) rfl ?_));clear S;intro v16 a w34 hv16 hk33 hn16 S
       subst hv16
       refine Ld (d_next hk33 (d_rest [37, 38] hsel (by kernel_rfl) rfl ?_))
       clear hsel
       refine s_want S rfl rfl rfl rfl hb18 (s_lv0 S (rn_not (S.tm rfl)) rfl ?_);clear S;intro a S
       refine s_lv S rfl (rn_pick_c hb18 (S.tm rfl) (S.tm rfl)) rfl ?_;clear S;intro a S
       refine s_done ?_
       replace S := S.nk [.blk Ab [Aa] 26, .own Aa 38 3 Ag.length (Ag.flatMap GSwimmer.enc)] [(1, .pointer (some ⟨Ab, 0, none⟩)), (4, u1), (6, v2), (81, bV (!r9))] [true, true] rfl (subR rfl)
       refine Tn ?_
       exact ⟨!r9, h, S.nf [true, true] rfl (subR rfl)⟩
     ·replace h := iteF h hb17
      obtain ⟨hc54, h⟩ := chkE h
      rcases Bool.eq_false_or_eq_true (!decide (((nth r2 2).size : Int) = 2)) with hb19 | hb19
      ·replace h := iteT h hb19
       refine d_region [] ([]) Tryz.mixed S rfl (by kernel_rfl) ?_;clear S;intro w35 hk34 hsel S
       refine d_rest [0, 1, 2, 3, 4, 5, 6, 7, 8, 9, 10, 11, 12, 13, 14, 15, 16, 17, 18, 19, 20, 21, 22, 23, 24, 25, 26, 27, 28, 29, 30, 31, 32, 33, 34, 35, 36, 37, 38] hsel (by kernel_rfl) rfl ?_
       clear hsel
       refine s_lv S rfl (Rm (S.tm rfl)) rfl ?_;clear S;intro a S
       refine s_lv S rfl (rn_lenT sl_65 (S.tm rfl) (slc_len (ownV_slcT enc_str hs2))) rfl ?_;clear S;intro a S
       refine s_lv S rfl (rn_neq (S.tm rfl) rfl) rfl ?_;clear S;intro a S
       refine s_lv S rfl (Rm (S.tm rfl)) rfl ?_;clear S;intro a S
       refine s_want S rfl rfl rfl rfl hb5 (s_lv0 S (Rm (S.tm rfl)) rfl ?_);clear S;intro a S
       refine s_want S rfl rfl rfl rfl hb5 ?_
       obtain ⟨hc55, h⟩ := chkE h
       obtain ⟨b90, o90, hm92, hr99⟩ := rn_indexT (a := a) (x := .tmp 47) (y := .const (iV 0)) (ty := 0) sl_65 (ownV_slcT enc_str hs2) (inB_get hc55).1 (inB_get hc55).2 (S.tm rfl) rfl
       refine s_lv0 S (hr99 _) rfl ?_;clear S;intro a S
       clear hr99
       refine s_want S rfl rfl rfl rfl hb5 (s_lv0 S (rn_ld Tryz.isAgg9 (off := o90) (o := 0) (S.tm rfl) (hm92.at S.emb) rfl) rfl ?_);clear S;intro a S
       refine s_want S rfl rfl rfl rfl hb5 (s_lv0 S (rn_len_str Tryz.underlying9 (S.tm rfl)) rfl ?_);clear S;intro a S
       refine s_want S rfl rfl rfl rfl hb5 (s_lv0 S (rn_neq (S.tm rfl) rfl) rfl ?_);clear S;intro a S
       refine s_lv S rfl (rn_pick_c hb5 (S.tm rfl) (S.tm rfl)) rfl ?_;clear S;intro a S
       refine s_lv S rfl (Rm (S.tm rfl)) rfl ?_;clear S;intro a S
       refine s_want S rfl rfl rfl rfl hb13 (s_lv0 S (Rm (S.tm rfl)) rfl ?_);clear S;intro a S
       refine s_want S rfl rfl rfl rfl hb13 ?_
       obtain ⟨hc56, h⟩ := chkE h
       obtain ⟨b91, o91, hm93, hr100⟩ := rn_indexT (a := a) (x := .tmp 54) (y := .const (iV 1)) (ty := 0) sl_65 (ownV_slcT enc_str hs2) (inB_get hc56).1 (inB_get hc56).2 (S.tm rfl) rfl
       refine s_lv0 S (hr100 _) rfl ?_;clear S;intro a S
       clear hr100
       refine s_want S rfl rfl rfl rfl hb13 (s_lv0 S (rn_ld Tryz.isAgg9 (off := o91) (o := 0) (S.tm rfl) (hm93.at S.emb) rfl) rfl ?_);clear S;intro a S
       refine s_want S rfl rfl rfl rfl hb13 (s_lv0 S (rn_len_str Tryz.underlying9 (S.tm rfl)) rfl ?_);clear S;intro a S
       refine s_want S rfl rfl rfl rfl hb13 (s_lv0 S (rn_neq (S.tm rfl) rfl) rfl ?_);clear S;intro a S
       refine s_lv S rfl (rn_pick_c hb13 (S.tm rfl) (S.tm rfl)) rfl ?_;clear S;intro a S
       refine s_lv S rfl (Rm (S.tm rfl)) rfl ?_;clear S;intro a S
       refine s_want S rfl rfl rfl rfl hb17 (s_lv0 S (Rm (S.tm rfl)) rfl ?_);clear S;intro a S
       refine s_want S rfl rfl rfl rfl hb17 ?_
       obtain ⟨hc57, h⟩ := chkE h
       obtain ⟨b92, o92, hm94, hr101⟩ := rn_indexT (a := a) (x := .tmp 61) (y := .const (iV 2)) (ty := 0) sl_65 (ownV_slcT enc_str hs2) (inB_get hc57).1 (inB_get hc57).2 (S.tm rfl) rfl
       refine s_lv0 S (hr101 _) rfl ?_;clear S;intro a S
       clear hr101
       refine s_want S rfl rfl rfl rfl hb17 (s_lv0 S (rn_ld Tryz.isAgg9 (off := o92) (o := 0) (S.tm rfl) (hm94.at S.emb) rfl) rfl ?_);clear S;intro a S
       refine s_want S rfl rfl rfl rfl hb17 (s_lv0 S (rn_len_str Tryz.underlying9 (S.tm rfl)) rfl ?_);clear S;intro a S
       refine s_want S rfl rfl rfl rfl hb17 (s_lv0 S (rn_neq (S.tm rfl) rfl) rfl ?_);clear S;intro a S
       refine s_lv S rfl (rn_pick_c hb17 (S.tm rfl) (S.tm rfl)) rfl ?_;clear S;intro a S
       refine s_lv S rfl (Rm (S.tm rfl)) rfl ?_;clear S;intro a S
       iterate 13 (refine s_skip S rfl rfl rfl rfl (neq_t hb19) rfl ?_ rfl;clear S;intro a S)
       refine s_lv S rfl (rn_pick_b hb19 (S.tm rfl) rfl) rfl ?_;clear S;intro a S
       refine s_done ?_
       replace S := S.nk [.blk Ab [Aa] 26, .own Aa 38 3 Ag.length (Ag.flatMap GSwimmer.enc)] [(1, .pointer (some ⟨Ab, 0, none⟩)), (4, u1), (6, v2), (81, bV true)] [true, true] rfl (subR rfl)
       refine Tn ?_
       exact ⟨true, h, S.nf [true, true] rfl (subR rfl)⟩
      ·replace h := iteF h hb19
       obtain ⟨hc58, h⟩ := chkE h
       obtain ⟨hc59, h⟩ := chkE h
       obtain ⟨hc60, h⟩ := chkE h
       obtain ⟨hc61, h⟩ := chkE h
       obtain ⟨hc62, h⟩ := chkE h
       obtain ⟨r10, hr108, h⟩ := bindE h
       refine d_region [] ([]) Tryz.mixed S rfl (by kernel_rfl) ?_;clear S;intro w37 hk36 hsel S
       refine d_quiet 0 S hsel rfl rfl rfl (by kernel_rfl) (by kernel_rfl) rfl (fun _ hw => (Rm (S.tm rfl))) ?_;clear S;intro a S
       refine d_quiet 1 S hsel rfl rfl rfl (by kernel_rfl) (by kernel_rfl) rfl (fun _ hw => (rn_lenT sl_65 (S.tm rfl) (slc_len (ownV_slcT enc_str hs2)))) ?_;clear S;intro a S
       refine d_quiet 2 S hsel rfl rfl rfl (by kernel_rfl) (by kernel_rfl) rfl (fun _ hw => (rn_neq (S.tm rfl) rfl)) ?_;clear S;intro a S
       refine d_quiet 3 S hsel rfl rfl rfl (by kernel_rfl) (by kernel_rfl) rfl (fun _ hw => (Rm (S.tm rfl))) ?_;clear S;intro a S
       refine d_quiet_g 4 S hsel rfl rfl rfl rfl hb5 rfl rfl (by kernel_rfl) (by kernel_rfl) rfl (fun _ hw => (Rm (S.tm rfl))) ?_;clear S;intro a S
       obtain ⟨b99, o99, hm101, hr109⟩ := rn_indexT (a := a) (x := .tmp 47) (y := .const (iV 0)) (ty := 0) sl_65 ((ownV_slcT enc_str hs2).mono (S.le_new nil_sub)) (inB_get hc31).1 (inB_get hc31).2 (S.tm rfl) rfl
       refine d_quiet_g 5 S hsel rfl rfl rfl rfl hb5 rfl rfl (by kernel_rfl) (by kernel_rfl) rfl (fun _ hw => hr109 _) ?_;clear S;intro a S
       clear hr109
       refine d_quiet_g 6 S hsel rfl rfl rfl rfl hb5 rfl rfl (by kernel_rfl) (by kernel_rfl) rfl (fun _ hw => (rn_ld Tryz.isAgg9 (off := o99) (o := 0) (S.tm rfl) (hm101.kept hw) rfl)) ?_;clear S;intro a S
       refine d_quiet_g 7 S hsel rfl rfl rfl rfl hb5 rfl rfl (by kernel_rfl) (by kernel_rfl) rfl (fun _ hw => (rn_len_str Tryz.underlying9 (S.tm rfl))) ?_;clear S;intro a S
       refine d_quiet_g 8 S hsel rfl rfl rfl rfl hb5 rfl rfl (by kernel_rfl) (by kernel_rfl) rfl (fun _ hw => (rn_neq (S.tm rfl) rfl)) ?_;clear S;intro a S
       refine d_quiet 9 S hsel rfl rfl rfl (by kernel_rfl) (by kernel_rfl) rfl (fun _ hw => (rn_pick_c hb5 (S.tm rfl) (S.tm rfl))) ?_;clear S;intro a S
       refine d_quiet 10 S hsel rfl rfl rfl (by kernel_rfl) (by kernel_rfl) rfl (fun _ hw => (Rm (S.tm rfl))) ?_;clear S;intro a S
       refine d_quiet_g 11 S hsel rfl rfl rfl rfl hb13 rfl rfl (by kernel_rfl) (by kernel_rfl) rfl (fun _ hw => (Rm (S.tm rfl))) ?_;clear S;intro a S
       obtain ⟨b100, o100, hm102, hr110⟩ := rn_indexT (a := a) (x := .tmp 54) (y := .const (iV 1)) (ty := 0) sl_65 ((ownV_slcT enc_str hs2).mono (S.le_new nil_sub)) (inB_get hc46).1 (inB_get hc46).2 (S.tm rfl) rfl
       refine d_quiet_g 12 S hsel rfl rfl rfl rfl hb13 rfl rfl (by kernel_rfl) (by kernel_rfl) rfl (fun _ hw => hr110 _) ?_;clear S;intro a S
       clear hr110
       refine d_quiet_g 13 S hsel rfl rfl rfl rfl hb13 rfl rfl (by kernel_rfl) (by kernel_rfl) rfl (fun _ hw => (rn_ld Tryz.isAgg9 (off := o100) (o := 0) (S.tm rfl) (hm102.kept hw) rfl)) ?_;clear S;intro a S
       refine d_quiet_g 14 S hsel rfl rfl rfl rfl hb13 rfl rfl (by kernel_rfl) (by kernel_rfl) rfl (fun _ hw => (rn_len_str Tryz.underlying9 (S.tm rfl))) ?_;clear S;intro a S
       refine d_quiet_g 15 S hsel rfl rfl rfl rfl hb13 rfl rfl (by kernel_rfl) (by kernel_rfl) rfl (fun _ hw => (rn_neq (S.tm rfl) rfl)) ?_;clear S;intro a S
       refine d_quiet 16 S hsel rfl rfl rfl (by kernel_rfl) (by kernel_rfl) rfl (fun _ hw => (rn_pick_c hb13 (S.tm rfl) (S.tm rfl))) ?_;clear S;intro a S
       refine d_quiet 17 S hsel rfl rfl rfl (by kernel_rfl) (by kernel_rfl) rfl (fun _ hw => (Rm (S.tm rfl))) ?_;clear S;intro a S
       refine d_quiet_g 18 S hsel rfl rfl rfl rfl hb17 rfl rfl (by kernel_rfl) (by kernel_rfl) rfl (fun _ hw => (Rm (S.tm rfl))) ?_;clear S;intro a S
       obtain ⟨b101, o101, hm103, hr111⟩ := rn_indexT (a := a) (x := .tmp 61) (y := .const (iV 2)) (ty := 0) sl_65 ((ownV_slcT enc_str hs2).mono (S.le_new nil_sub)) (inB_get hc54).1 (inB_get hc54).2 (S.tm rfl) rfl
       refine d_quiet_g 19 S hsel rfl rfl rfl rfl hb17 rfl rfl (by kernel_rfl) (by kernel_rfl) rfl (fun _ hw => hr111 _) ?_;clear S;intro a S
       clear hr111
       refine d_quiet_g 20 S hsel rfl rfl rfl rfl hb17 rfl rfl (by kernel_rfl) (by kernel_rfl) rfl (fun _ hw => (rn_ld Tryz.isAgg9 (off := o101) (o := 0) (S.tm rfl) (hm103.kept hw) rfl)) ?_;clear S;intro a S
       refine d_quiet_g 21 S hsel rfl rfl rfl rfl hb17 rfl rfl (by kernel_rfl) (by kernel_rfl) rfl (fun _ hw => (rn_len_str Tryz.underlying9 (S.tm rfl))) ?_;clear S;intro a S
       refine d_quiet_g 22 S hsel rfl rfl rfl rfl hb17 rfl rfl (by kernel_rfl) (by kernel_rfl) rfl (fun _ hw => (rn_neq (S.tm rfl) rfl)) ?_;clear S;intro a S
       refine d_quiet 23 S hsel rfl rfl rfl (by kernel_rfl) (by kernel_rfl) rfl (fun _ hw => (rn_pick_c hb17 (S.tm rfl) (S.tm rfl))) ?_;clear S;intro a S
       refine d_quiet 24 S hsel rfl rfl rfl (by kernel_rfl) (by kernel_rfl) rfl (fun _ hw => (Rm (S.tm rfl))) ?_;clear S;intro a S
       refine d_quiet_g 25 S hsel rfl rfl rfl rfl hb19 rfl rfl (by kernel_rfl) (by kernel_rfl) rfl (fun _ hw => (Rm (S.tm rfl))) ?_;clear S;intro a S
       obtain ⟨b102, o102, hm104, hr112⟩ := rn_indexT (a := a) (x := .tmp 68) (y := .const (iV 0)) (ty := 0) sl_65 ((ownV_slcT enc_str hs2).mono (S.le_new nil_sub)) (inB_get hc58).1 (inB_get hc58).2 (S.tm rfl) rfl
       refine d_quiet_g 26 S hsel rfl rfl rfl rfl hb19 rfl rfl (by kernel_rfl) (by kernel_rfl) rfl (fun _ hw => hr112 _) ?_;clear S;intro a S
       clear hr112
       refine d_quiet_g 27 S hsel rfl rfl rfl rfl hb19 rfl rfl (by kernel_rfl) (by kernel_rfl) rfl (fun _ hw => (rn_ld Tryz.isAgg9 (off := o102) (o := 0) (S.tm rfl) (hm104.kept hw) rfl)) ?_;clear S;intro a S
       refine d_quiet_g 28 S hsel rfl rfl rfl rfl hb19 rfl rfl (by kernel_rfl) (by kernel_rfl) rfl (fun _ hw => (Rm (S.tm rfl))) ?_;clear S;intro a S
       obtain ⟨b103, o103, hm105, hr113⟩ := rn_indexT (a := a) (x := .tmp 71) (y := .const (iV 1)) (ty := 0) sl_65 ((ownV_slcT enc_str hs2).mono (S.le_new nil_sub)) (inB_get hc59).1 (inB_get hc59).2 (S.tm rfl) rfl
       refine d_quiet_g 29 S hsel rfl rfl rfl rfl hb19 rfl rfl (by kernel_rfl) (by kernel_rfl) rfl (fun _ hw => hr113 _) ?_;clear S;intro a S
       clear hr113
       refine d_quiet_g 30 S hsel rfl rfl rfl rfl hb19 rfl rfl (by kernel_rfl) (by kernel_rfl) rfl (fun _ hw => (rn_ld Tryz.isAgg9 (off := o103) (o := 0) (S.tm rfl) (hm105.kept hw) rfl)) ?_;clear S;intro a S
       refine d_quiet_g 31 S hsel rfl rfl rfl rfl hb19 rfl rfl (by kernel_rfl) (by kernel_rfl) rfl (fun _ hw => (rn_sadd (m := (nth r2 0)) (n := (nth r2 1)) (S.tm rfl) (S.tm rfl) (by have := room_lt hc60;omega))) ?_;clear S;intro a S
       refine d_quiet_g 32 S hsel rfl rfl rfl rfl hb19 rfl rfl (by kernel_rfl) (by kernel_rfl) rfl (fun _ hw => (Rm (S.tm rfl))) ?_;clear S;intro a S
       obtain ⟨b104, o104, hm106, hr114⟩ := rn_indexT (a := a) (x := .tmp 75) (y := .const (iV 2)) (ty := 0) sl_65 ((ownV_slcT enc_str hs2).mono (S.le_new nil_sub)) (inB_get hc61).1 (inB_get hc61).2 (S.tm rfl) rfl
       refine d_quiet_g 33 S hsel rfl rfl rfl rfl hb19 rfl rfl (by kernel_rfl) (by kernel_rfl) rfl (fun _ hw => hr114 _) ?_;clear S;intro a S
       clear hr114
       refine d_quiet_g 34 S hsel rfl rfl rfl rfl hb19 rfl rfl (by kernel_rfl) (by kernel_rfl) rfl (fun _ hw => (rn_ld Tryz.isAgg9 (off := o104) (o := 0) (S.tm rfl) (hm106.kept hw) rfl)) ?_;clear S;intro a S
       refine d_quiet_g 35 S hsel rfl rfl rfl rfl hb19 rfl rfl (by kernel_rfl) (by kernel_rfl) rfl (fun _ hw => (rn_sadd (m := ((nth r2 0) ++ (nth r2 1))) (n := (nth r2 2)) (S.tm rfl) (S.tm rfl) (by have := room_lt hc62;omega))) ?_;clear S;intro a S
       refine d_loud1 36 (by kernel_rfl) rfl (l_want S rfl rfl rfl hb19 (l_enter S (fun _ => run_call (vs := [sV (((nth r2 0) ++ (nth r2 1)) ++ (nth r2 2)), sV k_0123456789]) ⟨(S.tm rfl), rfl, trivial⟩ Tryz.call40) (tumbref2_only_ok _ (((nth r2 0) ++ (nth r2 1)) ++ (nth r2 2)) k_0123456789 _ hr108) rfl ?_));clear S;intro v18 a w38 hv18 hk37 hn18 S
       subst hv18
       refine Ld (d_next hk37 (d_rest [37, 38] hsel (by kernel_rfl) rfl ?_))
       clear hsel
       refine s_want S rfl rfl rfl rfl hb19 (s_lv0 S (rn_not (S.tm rfl)) rfl ?_);clear S;intro a S
       refine s_lv S rfl (rn_pick_c hb19 (S.tm rfl) (S.tm rfl)) rfl ?_;clear S;intro a S
       refine s_done ?_
       replace S := S.nk [.blk Ab [Aa] 26, .own Aa 38 3 Ag.length (Ag.flatMap GSwimmer.enc)] [(1, .pointer (some ⟨Ab, 0, none⟩)), (4, u1), (6, v2), (81, bV (!r10))] [true, true] rfl (subR rfl)
       refine Tn ?_
       exact ⟨!r10, h, S.nf [true, true] rfl (subR rfl)⟩
  clear S h;rintro a w6 ⟨x1, h, S⟩;rw [hj3] at h;clear hj3 j3
  refine Tn (f_cond (S.tm rfl) (fun hb20 => ?_) (fun hb20 => ?_))
  ·replace h := iteT h hb20
   refine Fs (Fg (lv S (Ra rfl) rfl ?_));clear S;intro a S
   refine Ld (Tn (wp_ret (then_r ?_)))
   obtain rfl := Option.some.inj h
   exact f_ret S Tryz.results37 rfl ⟨Aa, S.grp [0, 1] [] rfl rfl rfl, rfl⟩
  ·replace h := iteF h hb20
   refine wp_skip (Tn (Fs (Fg (lv S (Rm (S.tm rfl)) rfl ?_))));clear S;intro a S
   obtain ⟨hc63, h⟩ := chkE h
   obtain ⟨b105, o105, hm107, hr115⟩ := rn_indexT (a := a) (x := .tmp 83) (y := .const (iV 0)) (ty := 0) sl_65 (ownV_slcT enc_str hs2) (inB_get hc63).1 (inB_get hc63).2 (S.tm rfl) rfl
   refine lv S (hr115 _) rfl ?_;clear S;intro a S
   clear hr115
   refine lv S (rn_ld Tryz.isAgg9 (off := o105) (o := 0) (S.tm rfl) (hm107.at S.emb) rfl) rfl ?_;clear S;intro a S
   obtain ⟨r11, hr116, h⟩ := bindE h
   refine l_enter S (fun _ => run_call (vs := [sV (nth r2 0)]) ⟨(S.tm rfl), trivial⟩ Tryz.call41) (strconv_Atoi_ok _ (nth r2 0) _ hr116) rfl ?_;clear S;intro v19 a w39 hv19 hk38 hn19 S
   subst hv19
   refine lv S (Rm (S.tm rfl)) rfl ?_;clear S;intro a S
   refine lv S (rn_extract (S.tm rfl) rfl) rfl ?_;clear S;intro a S
   refine lv S (rn_extract (S.tm rfl) rfl) rfl ?_;clear S;intro a S
   refine lv S (Ra (S.tm rfl)) rfl ?_;clear S;intro a S
   refine lv S (Ra (S.tm rfl)) rfl ?_;clear S;intro a S
   refine Ld (Tn (Fs (Fg (lv S (Rm (S.tm rfl)) rfl ?_))));clear S;intro a S
   obtain ⟨hc64, h⟩ := chkE h
   obtain ⟨b106, o106, hm108, hr117⟩ := rn_indexT (a := a) (x := .tmp 90) (y := .const (iV 1)) (ty := 0) sl_65 (ownV_slcT enc_str hs2) (inB_get hc64).1 (inB_get hc64).2 (S.tm rfl) rfl
   refine lv S (hr117 _) rfl ?_;clear S;intro a S
   clear hr117
   refine lv S (rn_ld Tryz.isAgg9 (off := o106) (o := 0) (S.tm rfl) (hm108.at S.emb) rfl) rfl ?_;clear S;intro a S
   obtain ⟨r12, hr118, h⟩ := bindE h
   refine l_enter S (fun _ => run_call (vs := [sV (nth r2 1)]) ⟨(S.tm rfl), trivial⟩ Tryz.call41) (strconv_Atoi_ok _ (nth r2 1) _ hr118) rfl ?_;clear S;intro v20 a w40 hv20 hk39 hn20 S
   subst hv20
   refine lv S (Rm (S.tm rfl)) rfl ?_;clear S;intro a S
   refine lv S (rn_extract (S.tm rfl) rfl) rfl ?_;clear S;intro a S
   refine lv S (rn_extract (S.tm rfl) rfl) rfl ?_;clear S;intro a S
   refine lv S (Ra (S.tm rfl)) rfl ?_;clear S;intro a S
   refine lv S (Ra (S.tm rfl)) rfl ?_;clear S;intro a S
   refine Ld ?_
   replace S := S.nk [.blk Ab [Aa] 26, .own Aa 38 3 Ag.length (Ag.flatMap GSwimmer.enc)] [(1, .pointer (some ⟨Ab, 0, none⟩)), (4, u1), (6, v2), (7, iV r11), (9, iV r12)] [true, true] rfl (subR rfl)
   refine Tn (Fs (Fg (lv S (Rm (S.tm rfl)) rfl ?_)));clear S;intro a S
   obtain ⟨hc65, h⟩ := chkE h
   obtain ⟨b107, o107, hm109, hr119⟩ := rn_indexT (a := a) (x := .tmp 97) (y := .const (iV 2)) (ty := 0) sl_65 (ownV_slcT enc_str hs2) (inB_get hc65).1 (inB_get hc65).2 (S.tm rfl) rfl
   refine lv S (hr119 _) rfl ?_;clear S;intro a S
   clear hr119
   refine lv S (rn_ld Tryz.isAgg9 (off := o107) (o := 0) (S.tm rfl) (hm109.at S.emb) rfl) rfl ?_;clear S;intro a S
   obtain ⟨r13, hr120, h⟩ := bindE h
   refine l_enter S (fun _ => run_call (vs := [sV (nth r2 2)]) ⟨(S.tm rfl), trivial⟩ Tryz.call41) (strconv_Atoi_ok _ (nth r2 2) _ hr120) rfl ?_;clear S;intro v21 a w41 hv21 hk40 hn21 S
   subst hv21
   refine lv S (Rm (S.tm rfl)) rfl ?_;clear S;intro a S
   refine lv S (rn_extract (S.tm rfl) rfl) rfl ?_;clear S;intro a S
   refine lv S (rn_extract (S.tm rfl) rfl) rfl ?_;clear S;intro a S
   refine lv S (Ra (S.tm rfl)) rfl ?_;clear S;intro a S
   refine lv S (Ra (S.tm rfl)) rfl ?_;clear S;intro a S
   refine Ld (Tn (Fs (Fg (lv S (Rm (S.tm rfl)) rfl ?_))));clear S;intro a S
   refine lv S (Rm (S.tm rfl)) rfl ?_;clear S;intro a S
   refine lv S (Rm (S.tm rfl)) rfl ?_;clear S;intro a S
   refine lv S (rn_bld bt_53 (pv := [(0, iV r11), (1, iV r12), (2, iV r13)]) ⟨rfl, (S.tm rfl), rfl, (S.tm rfl), rfl, (S.tm rfl), trivial⟩ (cs := [iV r11, iV r12, iV r13]) (by kernel_rfl)) rfl ?_;clear S;intro a S
   obtain ⟨r14, hr121, h⟩ := bindE h
   refine l_enter S (fun _ => run_call (vs := [.agg (GDate.enc (GDate.mk r11 r12 r13)).toArray]) ⟨(S.tm rfl), trivial⟩ Tryz.call42) (tumbref2_DayFor_ok _ (GDate.mk r11 r12 r13) _ hr121) rfl ?_;clear S;intro v22 a w42 hv22 hk41 hn22 S
   subst hv22
   refine lv S (Rm (S.tm rfl)) rfl ?_;clear S;intro a S
   refine lv S (rn_extract (S.tm rfl) rfl) rfl ?_;clear S;intro a S
   refine lv S (rn_extract (S.tm rfl) rfl) rfl ?_;clear S;intro a S
   refine lv S (Ra (S.tm rfl)) rfl ?_;clear S;intro a S
   refine lv S (Ra (S.tm rfl)) rfl ?_;clear S;intro a S
   refine Ld ?_
   replace S := S.nk [.blk Ab [Aa] 26, .own Aa 38 3 Ag.length (Ag.flatMap GSwimmer.enc)] [(1, .pointer (some ⟨Ab, 0, none⟩)), (4, u1), (13, iV r14.1), (14, iV r14.2)] [true, true] rfl (subR rfl)
   refine Tn (Fs ?_)
   obtain ⟨hc66, h⟩ := chkE h
   obtain ⟨hc67, h⟩ := chkE h
   obtain ⟨r15, hr124, h⟩ := bindE h
   obtain ⟨hc68, h⟩ := chkE h
   refine d_region [12] (Aa.ownBlock.toList) Tryz.mixed S rfl (by kernel_rfl) ?_;clear S;intro w47 hk46 hsel S
   refine d_quiet 0 S hsel rfl (by kernel_rfl) (by kernel_rfl) (by kernel_rfl) (by kernel_rfl) rfl (fun _ hw => (rn_ld Tryz.isAgg26 (off := 0) (o := 0) (S.tm rfl) ((S.blk_mem (i := 0) (cells := [Aa]) (b := Ab) (T := 26) rfl (ne_fp (i := 1) (j := 0) (e := .own Aa 38 3 Ag.length (Ag.flatMap GSwimmer.enc)) (e' := .blk Ab [Aa] 26) S rfl rfl rfl)).kept hw) rfl)) ?_;clear S;intro a S
   refine d_pure 1 S hsel rfl rfl (by kernel_rfl) (by kernel_rfl) rfl (fun _ => (Rm (S.tm rfl))) ?_;clear S;intro a S
   obtain ⟨b111, o110, hm112, hr125⟩ := rn_indexT (a := a) (x := .tmp 112) (y := .const (iV 0)) (ty := 0) sl_65 ((ownV_slcT enc_str hs1).mono (View.le_trans hl2 (S.le_new (fp_sub (i := 1) (e := .own Aa 38 3 Ag.length (Ag.flatMap GSwimmer.enc)) rfl)))) (inB_get hc66).1 (inB_get hc66).2 (S.tm rfl) rfl
   refine d_pure 2 S hsel rfl rfl (by kernel_rfl) (by kernel_rfl) rfl (fun _ => hr125 _) ?_;clear S;intro a S
   clear hr125
   refine d_quiet 3 S hsel rfl (by kernel_rfl) (by kernel_rfl) (by kernel_rfl) (by kernel_rfl) rfl (fun _ hw => (rn_ld Tryz.isAgg9 (off := o110) (o := 0) (S.tm rfl) (hm112.kept hw) rfl)) ?_;clear S;intro a S
   refine d_pure 4 S hsel rfl rfl (by kernel_rfl) (by kernel_rfl) rfl (fun _ => (Rm (S.tm rfl))) ?_;clear S;intro a S
   obtain ⟨b112, o111, hm113, hr126⟩ := rn_indexT (a := a) (x := .tmp 115) (y := .const (iV 1)) (ty := 0) sl_65 ((ownV_slcT enc_str hs1).mono (View.le_trans hl2 (S.le_new (fp_sub (i := 1) (e := .own Aa 38 3 Ag.length (Ag.flatMap GSwimmer.enc)) rfl)))) (inB_get hc67).1 (inB_get hc67).2 (S.tm rfl) rfl
   refine d_pure 5 S hsel rfl rfl (by kernel_rfl) (by kernel_rfl) rfl (fun _ => hr126 _) ?_;clear S;intro a S
   clear hr126
   refine d_quiet 6 S hsel rfl (by kernel_rfl) (by kernel_rfl) (by kernel_rfl) (by kernel_rfl) rfl (fun _ hw => (rn_ld Tryz.isAgg9 (off := o111) (o := 0) (S.tm rfl) (hm113.kept hw) rfl)) ?_;clear S;intro a S
   refine d_pure 8 S hsel rfl rfl (by kernel_rfl) (by kernel_rfl) rfl (fun _ => (Rm (S.tm rfl))) ?_;clear S;intro a S
   refine d_loud1 7 (by kernel_rfl) rfl (l_enter S (fun _ => run_call (vs := [sV k__20fm, sV (nth r1.1 1)]) ⟨rfl, (S.tm rfl), trivial⟩ Tryz.call43) (strings_Index_ok _ k__20fm (nth r1.1 1) (hg_maxlen.mono (S.le_arg nil_sub)) _ hr124) rfl ?_);clear S;intro v25 a w48 hv24 hk47 hn24 S
   subst hv24
   refine Ld (d_next (Keep.none hk47) (d_pure 9 S hsel rfl rfl (by kernel_rfl) (by kernel_rfl) rfl (fun _ => (rn_bld bt_38 (pv := [(0, sV (nth r1.1 0)), (1, iV r15), (2, iV r14.1)]) ⟨rfl, (S.tm rfl), rfl, (S.tm rfl), rfl, (S.tm rfl), trivial⟩ (cs := [sV (nth r1.1 0), iV r15, iV r14.1]) (by kernel_rfl))) ?_));clear S;intro a S
   refine d_loud1 10 (by kernel_rfl) rfl (l_buildSlice S Tryz.underlying26 Tryz.sizeOf38 Tryz.zeroValue38 rfl rfl (pv := [(0, .agg #[sV (nth r1.1 0), iV r15, iV r14.1])]) ⟨rfl, (S.tm rfl), trivial⟩ (cs := [sV (nth r1.1 0), iV r15, iV r14.1]) (by kernel_rfl) rfl ?_);clear S;intro a w49 b113 hz4 hk48 S
   refine Ld (d_next (Keep.none hk48) (d_loud1 11 (by kernel_rfl) rfl ?_))
   refine l_appendT sl_26 GSwimmer.enc_ok S (S.tm rfl) (i := 2) rfl (S.tm rfl) (j := 0) rfl (ys := [(GSwimmer.mk (nth r1.1 0) r15 r14.1)]) rfl rfl rfl rfl (by have := room_lt hc68;omega) rfl ?_;clear S;intro v26 a w50 hk49 S
   refine Ld (d_next hk49 (d_loudB 12 (v26.ownBlock.toList ++ [Ab]) rfl (by kernel_rfl) rfl (l_store S (S.tm rfl) (S.tm rfl) (i := 1) (off := 0) rfl Tryz.sizeOf26 (vs := [v26]) (SlcLen.cells (own_len (S.own_at (i := 2) rfl))) rfl rfl (all1 (SlcLen.one (own_len (S.own_at (i := 2) rfl))) rfl) ?_)));clear S;intro w51 hk50 S
   refine Ld (d_nextB (d_end (by kernel_rfl) ?_))
   clear hsel
   replace S := S.nk [.blk Ab [v26] 26, .own v26 38 3 (Ag ++ [(GSwimmer.mk (nth r1.1 0) r15 r14.1)]).length ((Ag ++ [(GSwimmer.mk (nth r1.1 0) r15 r14.1)]).flatMap GSwimmer.enc)] [(14, iV r14.2)] [false, true, true] rfl ⟨rfl, trivial⟩
   refine Tn (Fs (Fg (lv S (Rm (S.tm rfl)) rfl ?_)));clear S;intro a S
   refine lv S (rn_eql (S.tm rfl) rfl) rfl ?_;clear S;intro a S
   refine lv S (Ra (S.tm rfl)) rfl ?_;clear S;intro a S
   refine Ld (Tn (wp_ret ?_))
   obtain rfl := Option.some.inj h
   exact f_ret S Tryz.results37 rfl ⟨v26, S.grp [0, 1] [] rfl rfl rfl, rfl⟩
theorem tumbref2_Lines_tumbref2_SwimmersRead_c1_ok (w : World) (X : List Nat) (Au : ByteArray) (Ac : Nat) (Ai : Value) (Ak : List GSwimmer) (Bo : (LEnt.own Ai 38 3 Ak.length (Ak.flatMap GSwimmer.enc)).holds w) (Bp : (LEnt.blk Ac [Ai] 26).holds w) (hg_maxlen : GlobI (view w X) 0) (hXn : X.Nodup) (hXe : X = fps [.blk Ac [Ai] 26, .own Ai 38 3 Ak.length (Ak.flatMap GSwimmer.enc)]) (r : Int × Bool × (List GSwimmer)) (h : tumbref2_Lines_tumbref2_SwimmersRead_c1 Au Ak = some r) :
    Calls Tryz.prog 36 [sV Au, .func (.func 37) #[] #[.pointer (some ⟨Ac, 0, none⟩)]].toArray w (Ret w X fun _ v w' => ∃ y1 : Value, Grp w w' X [.blk Ac [y1] 26, .own y1 38 3 r.2.2.length (r.2.2.flatMap GSwimmer.enc)] ∧ v = .tuple #[iV r.1, bV r.2.1]) := by
 refine f_enter X [.blk Ac [Ai] 26, .own Ai 38 3 Ak.length (Ak.flatMap GSwimmer.enc)] Tryz.func36 rfl Tryz.ntmps36 rfl (fun e he => by simp only [List.mem_cons, List.not_mem_nil, or_false] at he;rcases he with rfl | rfl <;> assumption) (by rw [← hXe];exact hXn) (fun b hb => by rw [hXe];exact hb) fun a S => ?_
 unfold tumbref2_Lines_tumbref2_SwimmersRead_c1 at h
 replace S := S.nk [.blk Ac [Ai] 26, .own Ai 38 3 Ak.length (Ak.flatMap GSwimmer.enc)] [(0, sV Au), (1, .func (.func 37) #[] #[.pointer (some ⟨Ac, 0, none⟩)])] [true, true] rfl (subR rfl)
 refine Fs (Fg (lv S (Ra rfl) rfl ?_));clear S;intro a S
 refine lv S (Ra rfl) rfl ?_;clear S;intro a S
 refine Ld (Tn (Fs (Fs (Fg (lv S (Ra rfl) rfl ?_)))));clear S;intro a S
 refine Ld (Tn ?_)
 replace S := S.nk [.blk Ac [Ai] 26, .own Ai 38 3 Ak.length (Ak.flatMap GSwimmer.enc)] [(0, sV Au), (1, .func (.func 37) #[] #[.pointer (some ⟨Ac, 0, none⟩)]), (6, iV 0)] [true, true] rfl (subR rfl)
 obtain ⟨j1, hj1, h⟩ := joinE h
 refine f_join (fun a w' => ∃ x1 : List GSwimmer, ∃ v1 : Value, j1 x1 = some r ∧ Sx w X nov [.blk Ac [v1] 26, .own v1 38 3 x1.length (x1.flatMap GSwimmer.enc)] [] 30 a w') ?_ ?_
 ·refine wp_block (f_loop (fun (m1 : Nat) a w' => ∃ x1 : List GSwimmer, ∃ x2 : ByteArray, ∃ x3 : Int, ∃ v1 : Value, tumbref2_Lines_tumbref2_SwimmersRead_c1_l1 j1 m1 x1 x2 x3 = some r ∧ Sx w X nov [.blk Ac [v1] 26, .own v1 38 3 x1.length (x1.flatMap GSwimmer.enc)] [(0, sV x2), (1, .func (.func 37) #[] #[.pointer (some ⟨Ac, 0, none⟩)]), (6, iV x3)] 30 a w') id 4611686018427387904 ⟨Ak, Au, 0, Ai, h, S.nf [true, true] rfl (subR rfl)⟩ ?_)
  clear S h;rintro m1 a w1 ⟨x1, x2, x3, v1, h, S⟩
  cases m1 with
  | zero => rw [tumbref2_Lines_tumbref2_SwimmersRead_c1_l1.eq_1] at h;cases h
  | succ m1 =>
   rw [tumbref2_Lines_tumbref2_SwimmersRead_c1_l1.eq_2] at h
   refine Fs (Fs (Fg (lv S (Rm (S.tm rfl)) rfl ?_)));clear S;intro a S
   refine lv S (rn_sneq (S.tm rfl) rfl) rfl ?_;clear S;intro a S
   refine Ld (Tn (f_cond (S.tm rfl) (fun hb1 => ?_) (fun hb1 => ?_)))
   ·replace h := iteT h hb1
    refine wp_skip (Tn (Fs (wp_block (Fs (Fg (lv S (Rm (S.tm rfl)) rfl ?_))))));clear S;intro a S
    obtain ⟨r1, hr1, h⟩ := bindE h
    refine l_enter S (fun _ => run_call (vs := [sV x2, sV k__0a]) ⟨(S.tm rfl), rfl, trivial⟩ Tryz.call57) (strings_Cut_ok _ x2 k__0a (hg_maxlen.mono (S.le_arg nil_sub)) _ hr1) rfl ?_;clear S;intro v2 a w3 hv1 hk1 hn1 S
    subst hv1
    refine lv S (Rm (S.tm rfl)) rfl ?_;clear S;intro a S
    iterate 3 (refine lv S (rn_extract (S.tm rfl) rfl) rfl ?_;clear S;intro a S)
    iterate 3 (refine lv S (Ra (S.tm rfl)) rfl ?_;clear S;intro a S)
    refine Ld (Tn (Fs (Fs (Fg (lv S (Rm (S.tm rfl)) rfl ?_)))));clear S;intro a S
    refine lv S (rn_not (S.tm rfl)) rfl ?_;clear S;intro a S
    refine lv S (Rm (S.tm rfl)) rfl ?_;clear S;intro a S
    obtain ⟨j2, hj2, h⟩ := joinE h
    refine f_cutm 5 (fun a w' => ∃ x4 : List GSwimmer, ∃ x5 : Bool, ∃ v3 : Value, j2 x4 x5 = some r ∧ Sx w X nov [.blk Ac [v3] 26, .own v3 38 3 x4.length (x4.flatMap GSwimmer.enc)] [(1, .func (.func 37) #[] #[.pointer (some ⟨Ac, 0, none⟩)]), (6, iV x3), (8, sV r1.2.1), (27, bV x5)] 30 a w') ?_ ?_
    ·rcases Bool.eq_false_or_eq_true (!r1.2.2) with hb2 | hb2
     ·replace h := iteT h hb2
      iterate 4 (refine l_skip S rfl rfl rfl (neq_t hb2) rfl ?_ rfl;clear S;intro a S)
      refine lv S (rn_pick_b hb2 (S.tm rfl) rfl) rfl ?_;clear S;intro a S
      refine Ld (Tn ?_)
      exact ⟨x1, true, v1, h, S.nf [true, true] rfl (subR rfl)⟩
     ·replace h := iteF h hb2
      refine l_want S rfl rfl rfl hb2 (lv S (Rm (S.tm rfl)) rfl ?_);clear S;intro a S
      refine l_want S rfl rfl rfl hb2 (lv S (Rm (S.tm rfl)) rfl ?_);clear S;intro a S
      refine l_want S rfl rfl rfl hb2 ?_
      obtain ⟨r2, hr2, h⟩ := bindE h
      refine l_enterG [0, 1] [] (Ls := [.blk Ac [v1] 26, .own v1 38 3 x1.length (x1.flatMap GSwimmer.enc)]) (Lr := []) (Y := [Ac] ++ v1.ownBlock.toList) S rfl rfl rfl (by simp [fps_cons, fps_nil, LEnt.fp]) (fun _ => run_callV (cap := [.pointer (some ⟨Ac, 0, none⟩)]) (S.tm rfl) (vs := [sV r1.1]) ⟨(S.tm rfl), trivial⟩ Tryz.call37) (tumbref2_SwimmersRead_c1_ok _ ([Ac] ++ v1.ownBlock.toList) r1.1 Ac v1 x1 (S.holds _ (List.mem_of_getElem? (i := 1) rfl)) (S.holds _ (List.mem_of_getElem? (i := 0) rfl)) (hg_maxlen.mono (S.le_arg (app_sub (fp_sub (i := 0) (e := .blk Ac [v1] 26) rfl) (fp_sub (i := 1) (e := .own v1 38 3 x1.length (x1.flatMap GSwimmer.enc)) rfl)))) (S.ndg [0, 1] [] rfl rfl rfl (by simp [fps_cons, fps_nil, LEnt.fp])) (by simp [fps_cons, fps_nil, LEnt.fp]) _ hr2) rfl ?_;clear S;intro v4 a w5 hv2 hk2 hn2 S
      obtain ⟨v5, hg1, hv2⟩ := hv2;replace S := S _ hg1;clear hg1
      subst hv2
      refine l_want S rfl rfl rfl hb2 (lv S (rn_not (S.tm rfl)) rfl ?_);clear S;intro a S
      refine lv S (rn_pick_c hb2 (S.tm rfl) (S.tm rfl)) rfl ?_;clear S;intro a S
      refine Ld (Tn ?_)
      exact ⟨r2.2, !r2.1, v5, h, S.nf [true, true] rfl (subR rfl)⟩
    clear S h;rintro a w4 ⟨x4, x5, v3, h, S⟩;rw [hj2] at h;clear hj2 j2
    refine Ld (Tn (f_cond (S.tm rfl) (fun hb3 => ?_) (fun hb3 => ?_)))
    ·replace h := iteT h hb3
     refine Fs (Fg (lv S (Rm (S.tm rfl)) rfl ?_));clear S;intro a S
     refine lv S (Ra (S.tm rfl)) rfl ?_;clear S;intro a S
     refine lv S (Ra rfl) rfl ?_;clear S;intro a S
     refine Ld (Tn (wp_ret (then_r (blk_r (then_r (then_r ?_))))))
     refine blk_r (then_r (then_r ?_))
     obtain rfl := Option.some.inj h
     exact f_ret2 S Tryz.results36 rfl rfl ⟨v3, S.grp [0, 1] [] rfl rfl rfl, rfl⟩
    ·replace h := iteF h hb3
     refine wp_skip (Tn (Fg (lv S (Rm (S.tm rfl)) rfl ?_)));clear S;intro a S
     refine lv S (Ra (S.tm rfl)) rfl ?_;clear S;intro a S
     refine Ld (blk_n (Tn (Fg (lv S (Rm (S.tm rfl)) rfl ?_))));clear S;intro a S
     refine lv S (rn_add (S.tm rfl) rfl) rfl ?_;clear S;intro a S
     refine lv S (Ra (S.tm rfl)) rfl ?_;clear S;intro a S
     refine Ld (Tn ?_)
     exact ⟨m1, ⟨x4, r1.2.1, W (x3 + 1), v3, h, S.nf [true, true] rfl ⟨rfl, rfl, rfl, trivial⟩⟩, Nat.lt_succ_self _⟩
   ·replace h := iteF h hb1
    refine wp_exit (then_x (then_x (x_same (Tn ?_))))
    exact ⟨x1, v1, h, S.nf [true, true] rfl trivial⟩
 clear S h;rintro a w2 ⟨x1, v1, h, S⟩;rw [hj1] at h;clear hj1 j1
 refine Tn (Fs (Fg (lv S (Ra rfl) rfl ?_)));clear S;intro a S
 refine lv S (Ra rfl) rfl ?_;clear S;intro a S
 refine Ld (Tn (wp_ret ?_))
 obtain rfl := Option.some.inj h
 exact f_ret2 S Tryz.results36 rfl rfl ⟨v1, S.grp [0, 1] [] rfl rfl rfl, rfl⟩
theorem tumbref2_SwimmersRead_ok (w : World) (Au : ByteArray) (hg_maxlen : GlobI (view w []) 0) (r : (List GSwimmer) × Int × Int) (h : tumbref2_SwimmersRead Au = some r) :
    Calls Tryz.prog 10 [sV Au].toArray w (Ret w [] fun τ v _ => ∃ u1 : Value, v = .tuple #[u1, iV r.2.1, iV r.2.2] ∧ OwnV τ 38 3 u1 r.1.length (r.1.flatMap GSwimmer.enc)) := by
 refine f_enter [] [] Tryz.func10 rfl Tryz.ntmps10 rfl (by simp) (by simp [fps]) (by simp [fps]) fun a S => ?_
 unfold tumbref2_SwimmersRead at h
 replace S := S.nk [] [(0, sV Au)] [] rfl ⟨rfl, trivial⟩
 refine Fs (Fg (lv S (Ra rfl) rfl ?_));clear S;intro a S
 refine lv S (Ra rfl) rfl ?_;clear S;intro a S
 refine lv S (Ra rfl) rfl ?_;clear S;intro a S
 refine Ld (Tn (Fs (Fs (Fg (lv S (Rm (S.tm rfl)) rfl ?_)))));clear S;intro a S
 refine lv S (rn_len_str Tryz.underlying9 (S.tm rfl)) rfl ?_;clear S;intro a S
 refine lv S (rn_gtr (S.tm rfl) rfl) rfl ?_;clear S;intro a S
 refine Ld (Tn (f_cond (S.tm rfl) (fun hb1 => ?_) (fun hb1 => ?_)))
 ·replace h := iteT h hb1
  refine Fs (Fg (lv S (Ra rfl) rfl ?_));clear S;intro a S
  refine lv S (Ra rfl) rfl ?_;clear S;intro a S
  refine lv S (Ra rfl) rfl ?_;clear S;intro a S
  refine Ld (Tn (wp_ret (then_r ?_)))
  obtain rfl := Option.some.inj h
  exact f_ret3 S Tryz.results10 rfl rfl rfl ⟨_, rfl, (ownV_nil _ _ _)⟩
 ·replace h := iteF h hb1
  refine wp_skip (Tn (Fs (Fg (l_alloc S Tryz.zeroValue26 (cs := [.slice none 0 0]) rfl rfl ?_))));clear S;intro a w1 b1 hz1 hk1 S
  refine Ld (Tn (Fs (Fg (lv S (Rm (S.tm rfl)) rfl ?_))));clear S;intro a S
  refine lv S (rn_makeFunc (us := #[]) (xs := [].toArray) (ys := [.tmp 5].toArray) (by simp) (evA ⟨(S.tm rfl), trivial⟩ (vs := [.pointer (some ⟨b1, 0, none⟩)]))) rfl ?_;clear S;intro a S
  replace S := S.nil 38 3
  obtain ⟨r1, hr1, h⟩ := bindE h
  refine l_enterG [1, 0] [] (Ls := [.blk b1 [(.slice none 0 0)] 26, .own (.slice none 0 0) 38 3 ([] : List GSwimmer).length (([] : List GSwimmer).flatMap GSwimmer.enc)]) (Lr := []) (Y := [b1] ++ (Value.ownBlock (.slice none 0 0)).toList) S rfl rfl rfl (by simp [fps_cons, fps_nil, LEnt.fp]) (fun _ => run_call (vs := [sV Au, .func (.func 37) #[] #[.pointer (some ⟨b1, 0, none⟩)]]) ⟨(S.tm rfl), (S.tm rfl), trivial⟩ Tryz.call36) (tumbref2_Lines_tumbref2_SwimmersRead_c1_ok _ ([b1] ++ (Value.ownBlock (.slice none 0 0)).toList) Au b1 (.slice none 0 0) ([] : List GSwimmer) (S.holds _ (List.mem_of_getElem? (i := 0) rfl)) (S.holds _ (List.mem_of_getElem? (i := 1) rfl)) (hg_maxlen.mono (S.le_arg (app_sub (fp_sub (i := 1) (e := .blk b1 [(.slice none 0 0)] 26) rfl) (fp_sub (i := 0) (e := .own (.slice none 0 0) 38 3 ([] : List GSwimmer).length (([] : List GSwimmer).flatMap GSwimmer.enc)) rfl)))) (S.ndg [1, 0] [] rfl rfl rfl (by simp [fps_cons, fps_nil, LEnt.fp])) (by simp [fps_cons, fps_nil, LEnt.fp]) _ hr1) rfl ?_;clear S;intro v1 a w2 hv1 hk2 hn1 S
  obtain ⟨v2, hg1, hv1⟩ := hv1;replace S := S _ hg1;clear hg1
  subst hv1
  refine lv S (Rm (S.tm rfl)) rfl ?_;clear S;intro a S
  refine lv S (rn_extract (S.tm rfl) rfl) rfl ?_;clear S;intro a S
  refine lv S (rn_extract (S.tm rfl) rfl) rfl ?_;clear S;intro a S
  refine lv S (Ra (S.tm rfl)) rfl ?_;clear S;intro a S
  refine lv S (Ra (S.tm rfl)) rfl ?_;clear S;intro a S
  refine Ld ?_
  replace S := S.nk [.blk b1 [v2] 26, .own v2 38 3 r1.2.2.length (r1.2.2.flatMap GSwimmer.enc)] [(5, .pointer (some ⟨b1, 0, none⟩)), (6, iV r1.1), (7, bV r1.2.1)] [true, true] rfl (subR rfl)
  refine Tn (Fs (Fs (Fg (lv S (Rm (S.tm rfl)) rfl ?_))));clear S;intro a S
  refine lv S (rn_not (S.tm rfl)) rfl ?_;clear S;intro a S
  refine Ld (Tn (f_cond (S.tm rfl) (fun hb2 => ?_) (fun hb2 => ?_)))
  ·replace h := iteT h hb2
   refine Fs (Fg (lv S (Rm (S.tm rfl)) rfl ?_));clear S;intro a S
   refine lv S (Ra rfl) rfl ?_;clear S;intro a S
   refine lv S (Ra (S.tm rfl)) rfl ?_;clear S;intro a S
   refine lv S (Ra rfl) rfl ?_;clear S;intro a S
   refine Ld (Tn (wp_ret (then_r ?_)))
   obtain rfl := Option.some.inj h
   exact f_ret3 S Tryz.results10 rfl rfl rfl ⟨_, rfl, (ownV_nil _ _ _)⟩
  ·replace h := iteF h hb2
   refine wp_skip (Tn (Fs (Fs (Fg (lv S (rn_load Tryz.isAgg26 (S.tm rfl) (S.cell (i := 0) rfl rfl)) rfl ?_)))));clear S;intro a S
   obtain ⟨r2, hr2, h⟩ := bindE h
   refine l_enter S (fun _ => run_call (vs := [v2]) ⟨(S.tm rfl), trivial⟩ Tryz.call7) (tumbref2_SwimmersFault_ok _ v2 r1.2.2 (own_slcT GSwimmer.enc_ok S (i := 1) rfl (ne_nil (e' := .own v2 38 3 r1.2.2.length (r1.2.2.flatMap GSwimmer.enc)))) _ hr2) rfl ?_;clear S;intro v3 a w3 hv2 hk3 hn2 S
   subst hv2
   refine lv S (Ra (S.tm rfl)) rfl ?_;clear S;intro a S
   refine Ld (Tn (Fs (Fg (lv S (Rm (S.tm rfl)) rfl ?_))));clear S;intro a S
   refine lv S (rn_neq (S.tm rfl) rfl) rfl ?_;clear S;intro a S
   refine Ld (Tn (f_cond (S.tm rfl) (fun hb3 => ?_) (fun hb3 => ?_)))
   ·replace h := iteT h hb3
    refine Fs (Fg (lv S (Rm (S.tm rfl)) rfl ?_));clear S;intro a S
    refine lv S (Ra rfl) rfl ?_;clear S;intro a S
    refine lv S (Ra rfl) rfl ?_;clear S;intro a S
    refine lv S (Ra (S.tm rfl)) rfl ?_;clear S;intro a S
    refine Ld (Tn (wp_ret (then_r ?_)))
    obtain rfl := Option.some.inj h
    exact f_ret3 S Tryz.results10 rfl rfl rfl ⟨_, rfl, (ownV_nil _ _ _)⟩
   ·replace h := iteF h hb3
    refine wp_skip (Tn (Fs (Fg (lv S (rn_load Tryz.isAgg26 (S.tm rfl) (S.cell (i := 0) rfl rfl)) rfl ?_))));clear S;intro a S
    refine lv S (Ra (S.tm rfl)) rfl ?_;clear S;intro a S
    refine lv S (Ra rfl) rfl ?_;clear S;intro a S
    refine lv S (Ra rfl) rfl ?_;clear S;intro a S
    refine Ld (Tn (wp_ret ?_))
    obtain rfl := Option.some.inj h
    exact f_ret3 S Tryz.results10 rfl rfl rfl ⟨_, rfl, (own_retT S (i := 1) rfl rfl)⟩
set_option maxRecDepth 20000 in
theorem slices_Equal_Swimmer_ok (w : World) (As : Value) (Ax : List GSwimmer) (Bd : Slc (view w []) 3 As (Ax.map GSwimmer.enc)) (Av : Value) (Bf : List GSwimmer) (Bl : Slc (view w []) 3 Av (Bf.map GSwimmer.enc)) (r : Bool) (h : slices_Equal_Swimmer Ax Bf = some r) :
    Calls Tryz.prog 11 [As, Av].toArray w (Ret w [] fun _ v _ => v = bV r) := by
 refine f_enter [] [] Tryz.func11 rfl Tryz.ntmps11 rfl (by simp) (by simp [fps]) (by simp [fps]) fun a S => ?_
 unfold slices_Equal_Swimmer at h
 replace S := S.nk [] [(0, As), (1, Av)] [] rfl (subR rfl)
 refine Fs (Fg (lv S (Ra rfl) rfl ?_));clear S;intro a S
 refine Ld (Tn (Fs (Fs (Fg (lv S (Rm (S.tm rfl)) rfl ?_)))));clear S;intro a S
 refine lv S (rn_lenT sl_26 (S.tm rfl) (slc_len Bd)) rfl ?_;clear S;intro a S
 refine lv S (Rm (S.tm rfl)) rfl ?_;clear S;intro a S
 refine lv S (rn_lenT sl_26 (S.tm rfl) (slc_len Bl)) rfl ?_;clear S;intro a S
 refine lv S (rn_neq (S.tm rfl) (S.tm rfl)) rfl ?_;clear S;intro a S
 refine Ld (Tn (f_cond (S.tm rfl) (fun hb1 => ?_) (fun hb1 => ?_)))
 ·replace h := iteT h hb1
  refine Fs (Fg (lv S (Ra rfl) rfl ?_));clear S;intro a S
  refine Ld (Tn (wp_ret (then_r ?_)))
  obtain rfl := Option.some.inj h
  exact f_ret S Tryz.results11 rfl rfl
 ·replace h := iteF h hb1
  refine wp_skip (Tn (Fs (Fs (Fg (lv S (Rm (S.tm rfl)) rfl ?_)))));clear S;intro a S
  refine lv S (rn_lenT sl_26 (S.tm rfl) (slc_len Bd)) rfl ?_;clear S;intro a S
  refine lv S (Rm rfl) rfl ?_;clear S;intro a S
  refine Ld (Tn ?_)
  replace S := S.nk [] [(0, As), (1, Av), (12, iV (Ax.length : Int)), (13, iV 0)] [] rfl (subR rfl)
  obtain ⟨j1, hj1, h⟩ := joinE h
  refine f_join (fun a w' => j1 = some r ∧ Sx w [] nov [] [] 26 a w') ?_ ?_
  ·refine wp_block (f_loop (fun (ys1 : List GSwimmer) a w' => ∃ i1 : Nat, (∃ dn, Ax = dn ++ ys1 ∧ dn.length = i1) ∧ slices_Equal_Swimmer_l1 Bf j1 ys1 i1 = some r ∧ Sx w [] nov [] [(0, As), (1, Av), (12, iV (Ax.length : Int)), (13, iV (i1 : Int))] 26 a w') List.length Ax ⟨0, ⟨[], rfl, rfl⟩, h, S.nf [] rfl (subR rfl)⟩ ?_)
   clear S h;rintro ys1 a w1 ⟨i1, ⟨dn, hd1, hi1⟩, h, S⟩
   cases ys1 with
   | nil =>
    rw [slices_Equal_Swimmer_l1.eq_1] at h
    refine Fs (Fg (lv S (rn_lss (S.tm rfl) (S.tm rfl)) rfl ?_));clear S;intro a S
    refine Ld ?_
    replace S := S.nk [] [(0, As), (1, Av), (12, iV (Ax.length : Int)), (13, iV (i1 : Int)), (14, bV (decide ((i1 : Int) < (Ax.length : Int))))] [] rfl (subR rfl)
    refine Tn (Fs (wp_cond_false ((S.tm rfl).trans (congrArg Value.bool (rng_nil hd1 hi1))) (wp_exit (then_x (then_x (x_same ?_))))))
    refine Tn ?_
    exact ⟨h, S.nf [] rfl trivial⟩
   | cons y1 ys1 =>
    rw [slices_Equal_Swimmer_l1.eq_2] at h
    refine Fs (Fg (lv S (rn_lss (S.tm rfl) (S.tm rfl)) rfl ?_));clear S;intro a S
    refine Ld ?_
    replace S := S.nk [] [(0, As), (1, Av), (12, iV (Ax.length : Int)), (13, iV (i1 : Int)), (14, bV (decide ((i1 : Int) < (Ax.length : Int))))] [] rfl (subR rfl)
    refine Tn (Fs (wp_cond_true ((S.tm rfl).trans (congrArg Value.bool (rng_cons hd1 hi1))) (wp_skip (Tn (Fs (wp_block ?_))))))
    refine Fs (Fg (lv S (Rm (S.tm rfl)) rfl ?_));clear S;intro a S
    refine lv S (Ra (S.tm rfl)) rfl ?_;clear S;intro a S
    refine Ld (Tn (Fs (d_region [] ([]) Tryz.mixed S rfl (by kernel_rfl) ?_)));clear S;intro w3 hk1 hsel S
    refine d_rest [0, 1, 2, 3, 4, 5, 6, 7, 8] hsel (by kernel_rfl) rfl ?_
    clear hsel
    refine s_lv S rfl (Rm (S.tm rfl)) rfl ?_;clear S;intro a S
    refine s_lv S rfl (Rm (S.tm rfl)) rfl ?_;clear S;intro a S
    obtain ⟨b1, o1, hm1, hr1⟩ := rn_indexT (a := a) (x := .tmp 16) (y := .tmp 17) (ty := 0) sl_26 Bd (get_mid hd1 hi1) rfl (S.tm rfl) (S.tm rfl)
    refine s_lv S rfl (hr1 _) rfl ?_;clear S;intro a S
    clear hr1
    refine s_lv S rfl (rn_ldA Tryz.isAgg38 Tryz.sizeOf38 (off := o1) (o := 0) (part := (GSwimmer.enc y1)) rfl rfl (S.tm rfl) (hm1.at S.emb0)) rfl ?_;clear S;intro a S
    refine s_lv S rfl (Rm (S.tm rfl)) rfl ?_;clear S;intro a S
    refine s_lv S rfl (Rm (S.tm rfl)) rfl ?_;clear S;intro a S
    obtain ⟨hc1, h⟩ := chkE h
    obtain ⟨b2, o2, hm2, hr2⟩ := rn_indexT (a := a) (x := .tmp 20) (y := .tmp 21) (ty := 0) sl_26 Bl (inB_get hc1).1 (inB_get hc1).2 (S.tm rfl) (S.tm rfl)
    refine s_lv S rfl (hr2 _) rfl ?_;clear S;intro a S
    clear hr2
    refine s_lv S rfl (rn_ldA Tryz.isAgg38 Tryz.sizeOf38 (off := o2) (o := 0) (part := (GSwimmer.enc (nth Bf (i1 : Int)))) rfl rfl (S.tm rfl) (hm2.at S.emb0)) rfl ?_;clear S;intro a S
    refine s_lv S rfl (rn_neq_38 (m := y1) (n := (nth Bf (i1 : Int))) (S.tm rfl) (S.tm rfl)) rfl ?_;clear S;intro a S
    refine s_done ?_
    replace S := S.nk [] [(0, As), (1, Av), (12, iV (Ax.length : Int)), (13, iV (i1 : Int)), (24, bV (!decide (y1 = (nth Bf (i1 : Int)))))] [] rfl (subR rfl)
    refine Tn (f_cond (S.tm rfl) (fun hb2 => ?_) (fun hb2 => ?_))
    ·replace h := iteT h hb2
     refine Fs (Fg (lv S (Ra rfl) rfl ?_));clear S;intro a S
     refine Ld (Tn (wp_ret (blk_r (then_r (then_r (blk_r ?_))))))
     refine then_r (then_r ?_)
     obtain rfl := Option.some.inj h
     exact f_ret S Tryz.results11 rfl rfl
    ·replace h := iteF h hb2
     refine wp_skip (blk_n (Tn (Fg (lv S (rn_add (S.tm rfl) rfl) rfl ?_))));clear S;intro a S
     refine lv S (Rm (S.tm rfl)) rfl ?_;clear S;intro a S
     refine Ld (Tn ?_)
     exact ⟨ys1, ⟨i1 + 1, ⟨_, (hd1).trans (List.append_cons _ _ _), by simp [hi1]⟩, h, S.nf [] rfl ⟨rfl, rfl, rfl, (congrArg (fun z => some (Value.int .i64 z)) (rng_next hd1 hi1 (slc_max Bd))), trivial⟩⟩, Nat.lt_succ_self _⟩
  clear S h;rintro a w2 ⟨h, S⟩;rw [hj1] at h;clear hj1 j1
  refine Tn (Fs (Fg (lv S (Ra rfl) rfl ?_)));clear S;intro a S
  refine Ld (Tn (wp_ret ?_))
  obtain rfl := Option.some.inj h
  exact f_ret S Tryz.results11 rfl rfl
theorem tumblaw2_dated_ok (w : World) (r : Bool) (h : tumblaw2_dated = some r) :
    Calls Tryz.prog 12 [].toArray w (Ret w [] fun _ v _ => v = bV r) := by
 refine f_enter [] [] Tryz.func12 rfl Tryz.ntmps12 rfl (by simp) (by simp [fps]) (by simp [fps]) fun a S => ?_
 unfold tumblaw2_dated at h
 replace S := S.nk [] [] [] rfl trivial
 refine Fs (Fg (lv S (Ra rfl) rfl ?_));clear S;intro a S
 refine Ld (Tn (Fs (Fg (lv S (rn_bld bt_53 (pv := [(0, iV 2024), (1, iV 3), (2, iV 1)]) ⟨rfl, rfl, rfl, rfl, rfl, rfl, trivial⟩ (cs := [iV 2024, iV 3, iV 1]) (by kernel_rfl)) rfl ?_))));clear S;intro a S
 obtain ⟨r1, hr1, h⟩ := bindE h
 refine l_enter S (fun _ => run_call (vs := [.agg (GDate.enc (GDate.mk 2024 3 1)).toArray]) ⟨(S.tm rfl), trivial⟩ Tryz.call44) (swimmer_DayOf_ok _ (GDate.mk 2024 3 1) _ hr1) rfl ?_;clear S;intro v1 a w1 hv1 hk1 hn1 S
 subst hv1
 refine lv S (Rm (S.tm rfl)) rfl ?_;clear S;intro a S
 refine lv S (rn_extract (S.tm rfl) rfl) rfl ?_;clear S;intro a S
 refine lv S (rn_extract (S.tm rfl) rfl) rfl ?_;clear S;intro a S
 refine lv S (Ra (S.tm rfl)) rfl ?_;clear S;intro a S
 refine lv S (Ra (S.tm rfl)) rfl ?_;clear S;intro a S
 refine Ld (Tn (Fs (Fg (lv S (Rm (S.tm rfl)) rfl ?_))));clear S;intro a S
 refine lv S (rn_eql (S.tm rfl) rfl) rfl ?_;clear S;intro a S
 refine lv S (Rm (S.tm rfl)) rfl ?_;clear S;intro a S
 refine f_cutm 3 (fun a w' => Keep [] w1 w' ∧ Sx w [] nov [] [(13, bV ((decide (r1.2 = 0)) && (decide (r1.1 = 60))))] 14 a w') ?_ ?_
 ·rcases Bool.eq_false_or_eq_true (decide (r1.2 = 0)) with hb1 | hb1
  ·refine l_want S rfl rfl rfl hb1 (lv S (Rm (S.tm rfl)) rfl ?_);clear S;intro a S
   refine l_want S rfl rfl rfl hb1 (lv S (rn_eql (S.tm rfl) rfl) rfl ?_);clear S;intro a S
   refine lv S (rn_and_t hb1 (S.tm rfl) (S.tm rfl)) rfl ?_;clear S;intro a S
   refine Ld (Tn ?_)
   exact ⟨Keep.refl _ _, S.nf [] rfl ⟨rfl, trivial⟩⟩
  ·refine l_skip S rfl rfl rfl (neq_f hb1) rfl ?_ rfl;clear S;intro a S
   refine l_skip S rfl rfl rfl (neq_f hb1) rfl ?_ rfl;clear S;intro a S
   refine lv S (rn_and_f (decide (r1.1 = 60)) hb1 (S.tm rfl) rfl) rfl ?_;clear S;intro a S
   refine Ld (Tn ?_)
   exact ⟨Keep.refl _ _, S.nf [] rfl ⟨rfl, trivial⟩⟩
 clear S;rintro a w2 ⟨hk2, S⟩
 refine lv S (Ra (S.tm rfl)) rfl ?_;clear S;intro a S
 refine Ld (Tn (wp_ret ?_))
 obtain rfl := Option.some.inj h
 exact f_ret S Tryz.results12 rfl rfl
theorem tumblaw2_SwimmerTexts_ok (w : World) (Ae : Value) (Aj : List Int) (Ao : Slc (view w []) 1 Ae (Aj.map eInt)) (hg_maxlen : GlobI (view w []) 0) (hg_pow10 : Glob (view w []) 3 pow10Cells) (r : Bool) (h : tumblaw2_SwimmerTexts Aj = some r) :
    Calls Tryz.prog 3 [Ae].toArray w (Ret w [] fun _ v _ => v = bV r) := by
 refine f_enter [] [] Tryz.func3 rfl Tryz.ntmps3 rfl (by simp) (by simp [fps]) (by simp [fps]) fun a S => ?_
 unfold tumblaw2_SwimmerTexts at h
 replace S := S.nk [] [(0, Ae)] [] rfl ⟨rfl, trivial⟩
 refine Fs (Fg (lv S (Ra rfl) rfl ?_));clear S;intro a S
 refine Ld (Tn (Fs (Fg (lv S (Rm (S.tm rfl)) rfl ?_))));clear S;intro a S
 refine lv S (rn_bld bt_25 (pv := [(0, Ae)]) ⟨rfl, (S.tm rfl), trivial⟩ (cs := [Ae, iV 0]) (by obtain ⟨_, _, hv⟩ := (slc_len Ao);rw [hv];clear hv;kernel_rfl)) rfl ?_;clear S;intro a S
 refine l_box S (S.tm rfl) (cs := [Ae, iV 0]) rfl rfl ?_;clear S;intro a w1 b1 hz1 hk1 S
 refine lv S (Ra (S.tm rfl)) rfl ?_;clear S;intro a S
 refine Ld (Tn (Fs (Fg (lv S (Rm (S.tm rfl)) rfl ?_))));clear S;intro a S
 obtain ⟨r1, hr1, h⟩ := bindE h
 have hz2 := S.keep.size
 refine l_enter1 0 S (b := b1) rfl rfl (fun _ => .blk b1 [Ae, iV r1.2] 25) (fun _ => run_call (vs := [.pointer (some ⟨b1, 0, none⟩)]) ⟨(S.tm rfl), trivial⟩ Tryz.call4) (Stream_Swimmers_ok _ b1 Ae Aj (Ao.mono (S.le_arg (fp_sub (i := 0) (e := .blk b1 [Ae, iV 0] 25) rfl))) 0 (S.holds _ (List.mem_of_getElem? (i := 0) rfl)) _ hr1) rfl (fun _ _ _ h => ⟨h.1, fun _ hc => by cases hc;rfl⟩) ?_;clear S;intro v1 a w2 hv1 hk2 hn1 S
 replace hv1 := hv1.2
 obtain ⟨φ1, hl1, hm1, S⟩ := S.see' hn1 hz2
 have hs1 := hv1.mono hm1
 refine lv S (Rm (S.tm rfl)) rfl ?_;clear S;intro a S
 obtain ⟨r2, hr2, h⟩ := bindE h
 refine l_enter1 0 S (b := b1) rfl rfl (fun _ => .blk b1 [Ae, iV r2.2] 25) (fun _ => run_call (vs := [.pointer (some ⟨b1, 0, none⟩)]) ⟨(S.tm rfl), trivial⟩ Tryz.call5) (Stream_SwimmerText_ok _ b1 Ae Aj (Ao.mono (S.le_arg (fp_sub (i := 0) (e := .blk b1 [Ae, iV r1.2] 25) rfl))) r1.2 (S.holds _ (List.mem_of_getElem? (i := 0) rfl)) (hg_pow10.mono (S.le_arg (fp_sub (i := 0) (e := .blk b1 [Ae, iV r1.2] 25) rfl))) _ hr2) rfl (fun _ _ _ h => ⟨h.1, fun _ hc => by cases hc;rfl⟩) ?_;clear S;intro v2 a w3 hv2 hk3 hn2 S
 replace hv2 := hv2.2
 subst hv2
 refine lv S (Ra (S.tm rfl)) rfl ?_;clear S;intro a S
 refine lv S (Ra (S.tm rfl)) rfl ?_;clear S;intro a S
 refine Ld (Tn (Fs (Fg (lv S (Rm (S.tm rfl)) rfl ?_))));clear S;intro a S
 obtain ⟨r3, hr3, h⟩ := bindE h
 refine l_enter S (fun _ => run_call (vs := [v1]) ⟨(S.tm rfl), trivial⟩ Tryz.call6) (swimmer_Text_ok _ v1 r1.1 ((ownV_slcT GSwimmer.enc_ok hs1).mono (S.le_new nil_sub)) (hg_pow10.mono (S.le_arg nil_sub)) _ hr3) rfl ?_;clear S;intro v3 a w4 hv3 hk4 hn3 S
 subst hv3
 refine lv S (Rm (S.tm rfl)) rfl ?_;clear S;intro a S
 refine lv S (rn_extract (S.tm rfl) rfl) rfl ?_;clear S;intro a S
 refine lv S (rn_extract (S.tm rfl) rfl) rfl ?_;clear S;intro a S
 refine lv S (Ra (S.tm rfl)) rfl ?_;clear S;intro a S
 refine lv S (Ra (S.tm rfl)) rfl ?_;clear S;intro a S
 refine Ld ?_
 replace S := S.nk [] [(4, v1), (5, sV r2.1), (6, sV r3.1), (7, iV r3.2)] [false] rfl (subR rfl)
 refine Tn (Fs (Fg (lv S (Rm (S.tm rfl)) rfl ?_)));clear S;intro a S
 obtain ⟨r4, hr4, h⟩ := bindE h
 refine l_enter S (fun _ => run_call (vs := [v1]) ⟨(S.tm rfl), trivial⟩ Tryz.call7) (tumbref2_SwimmersFault_ok _ v1 r1.1 ((ownV_slcT GSwimmer.enc_ok hs1).mono (S.le_new nil_sub)) _ hr4) rfl ?_;clear S;intro v4 a w5 hv4 hk5 hn4 S
 subst hv4
 refine lv S (Ra (S.tm rfl)) rfl ?_;clear S;intro a S
 refine lv S (Ra rfl) rfl ?_;clear S;intro a S
 refine Ld (Tn (Fs (Fs (Fg (lv S (Rm (S.tm rfl)) rfl ?_)))));clear S;intro a S
 refine lv S (rn_eql (S.tm rfl) rfl) rfl ?_;clear S;intro a S
 refine Ld (Tn ?_)
 obtain ⟨j1, hj1, h⟩ := joinE h
 refine f_join (fun a w' => ∃ x1 : ByteArray, j1 x1 = some r ∧ Sx w [] φ1 [] [(5, sV r2.1), (6, sV r3.1), (7, iV r3.2), (8, iV r4), (9, sV x1)] 72 a w') ?_ ?_
 ·refine f_cond (S.tm rfl) (fun hb1 => ?_) (fun hb1 => ?_)
  ·replace h := iteT h hb1
   refine Fg (lv S (Rm (S.tm rfl)) rfl ?_);clear S;intro a S
   obtain ⟨r5, hr5, h⟩ := bindE h
   refine l_enter S (fun _ => run_call (vs := [v1]) ⟨(S.tm rfl), trivial⟩ Tryz.call8) (tumbref2_SwimmerLines_ok _ v1 r1.1 ((ownV_slcT GSwimmer.enc_ok hs1).mono (S.le_new nil_sub)) (hg_pow10.mono (S.le_arg nil_sub)) _ hr5) rfl ?_;clear S;intro v5 a w7 hv5 hk6 hn5 S
   subst hv5
   refine lv S (Ra (S.tm rfl)) rfl ?_;clear S;intro a S
   refine Ld (Tn ?_)
   exact ⟨r5, h, S.nf [] rfl (subR rfl)⟩
  ·replace h := iteF h hb1
   refine wp_skip (Tn ?_)
   exact ⟨k_empty, h, S.nf [] rfl (subR rfl)⟩
 clear S h;rintro a w6 ⟨x1, h, S⟩;rw [hj1] at h;clear hj1 j1
 refine Tn (Fs (Fg (lv S (Rm (S.tm rfl)) rfl ?_)));clear S;intro a S
 obtain ⟨r6, hr6, h⟩ := bindE h
 have hz3 := S.keep.size
 refine l_enter S (fun _ => run_call (vs := [sV r2.1]) ⟨(S.tm rfl), trivial⟩ Tryz.call9) (swimmer_Read_ok _ (join (view w []) φ1) (join_le (S.le_arg nil_sub) (S.le_new nil_sub)) r2.1 (hg_maxlen.mono (le_join_left _ _)) _ hr6) rfl ?_;clear S;intro v6 a w8 hv6 hk7 hn6 S
 obtain ⟨u2, rfl, ho2⟩ := hv6
 obtain ⟨φ2, hl2, hm2, S⟩ := S.see' hn6 hz3
 have hs2 := ho2.mono (all_step hl2 hm2)
 refine lv S (Rm (S.tm rfl)) rfl ?_;clear S;intro a S
 iterate 3 (refine lv S (rn_extract (S.tm rfl) rfl) rfl ?_;clear S;intro a S)
 iterate 3 (refine lv S (Ra (S.tm rfl)) rfl ?_;clear S;intro a S)
 refine Ld (Tn (Fs (Fg (lv S (Rm (S.tm rfl)) rfl ?_))));clear S;intro a S
 obtain ⟨r7, hr7, h⟩ := bindE h
 have hz4 := S.keep.size
 refine l_enter S (fun _ => run_call (vs := [sV r2.1]) ⟨(S.tm rfl), trivial⟩ Tryz.call10) (tumbref2_SwimmersRead_ok _ r2.1 (hg_maxlen.mono (S.le_arg nil_sub)) _ hr7) rfl ?_;clear S;intro v7 a w9 hv7 hk8 hn7 S
 obtain ⟨u3, rfl, ho3⟩ := hv7
 obtain ⟨φ3, hl3, hm3, S⟩ := S.see' hn7 hz4
 have hs3 := ho3.mono hm3
 refine lv S (Rm (S.tm rfl)) rfl ?_;clear S;intro a S
 iterate 3 (refine lv S (rn_extract (S.tm rfl) rfl) rfl ?_;clear S;intro a S)
 iterate 3 (refine lv S (Ra (S.tm rfl)) rfl ?_;clear S;intro a S)
 refine Ld ?_
 replace S := S.nk [] [(6, sV r3.1), (7, iV r3.2), (8, iV r4), (9, sV x1), (10, u2), (11, iV r6.2.1), (12, iV r6.2.2), (13, u3), (14, iV r7.2.1), (15, iV r7.2.2)] [] rfl (subR rfl)
 refine Tn (Fs (Fg (lv S (Rm (S.tm rfl)) rfl ?_)));clear S;intro a S
 refine lv S (Rm (S.tm rfl)) rfl ?_;clear S;intro a S
 refine lv S (rn_eql (S.tm rfl) (S.tm rfl)) rfl ?_;clear S;intro a S
 refine lv S (Rm (S.tm rfl)) rfl ?_;clear S;intro a S
 refine f_cutm 4 (fun a w' => Keep [] w9 w' ∧ Sx w [] φ3 [] [(10, u2), (11, iV r6.2.1), (12, iV r6.2.2), (13, u3), (14, iV r7.2.1), (15, iV r7.2.2), (53, bV ((decide (r3.2 = r4)) && (decide (r3.1 = x1))))] 72 a w') ?_ ?_
 ·rcases Bool.eq_false_or_eq_true (decide (r3.2 = r4)) with hb2 | hb2
  ·refine l_want S rfl rfl rfl hb2 (lv S (Rm (S.tm rfl)) rfl ?_);clear S;intro a S
   refine l_want S rfl rfl rfl hb2 (lv S (Rm (S.tm rfl)) rfl ?_);clear S;intro a S
   refine l_want S rfl rfl rfl hb2 (lv S (rn_seql (S.tm rfl) (S.tm rfl)) rfl ?_);clear S;intro a S
   refine lv S (rn_and_t hb2 (S.tm rfl) (S.tm rfl)) rfl ?_;clear S;intro a S
   refine Ld (Tn ?_)
   exact ⟨Keep.refl _ _, S.nf [] rfl (subR rfl)⟩
  ·iterate 3 (refine l_skip S rfl rfl rfl (neq_f hb2) rfl ?_ rfl;clear S;intro a S)
   refine lv S (rn_and_f (decide (r3.1 = x1)) hb2 (S.tm rfl) rfl) rfl ?_;clear S;intro a S
   refine Ld (Tn ?_)
   exact ⟨Keep.refl _ _, S.nf [] rfl (subR rfl)⟩
 clear S;rintro a w10 ⟨hk9, S⟩
 refine lv S (Rm (S.tm rfl)) rfl ?_;clear S;intro a S
 obtain ⟨j2, hj2, h⟩ := joinE h
 refine f_cutm 4 (fun a w' => ∃ c1, j2 c1 = some r ∧ Keep [] w10 w' ∧ Sx w [] φ3 [] [(11, iV r6.2.1), (12, iV r6.2.2), (14, iV r7.2.1), (15, iV r7.2.2), (58, bV c1)] 72 a w') ?_ ?_
 ·rcases Bool.eq_false_or_eq_true ((decide (r3.2 = r4)) && (decide (r3.1 = x1))) with hb3 | hb3
  ·replace h := iteT h hb3
   refine l_want S rfl rfl rfl hb3 (lv S (Rm (S.tm rfl)) rfl ?_);clear S;intro a S
   refine l_want S rfl rfl rfl hb3 (lv S (Rm (S.tm rfl)) rfl ?_);clear S;intro a S
   refine l_want S rfl rfl rfl hb3 ?_
   obtain ⟨r8, hr8, h⟩ := bindE h
   refine l_enter S (fun _ => run_call (vs := [u2, u3]) ⟨(S.tm rfl), (S.tm rfl), trivial⟩ Tryz.call11) (slices_Equal_Swimmer_ok _ u2 r6.1 (hs2.mono (join_le (S.le_arg nil_sub) (View.le_trans hl3 (S.le_new nil_sub)))) u3 r7.1 ((ownV_slcT GSwimmer.enc_ok hs3).mono (S.le_new nil_sub)) _ hr8) rfl ?_;clear S;intro v8 a w12 hv8 hk10 hn8 S
   subst hv8
   refine lv S (rn_and_t hb3 (S.tm rfl) (S.tm rfl)) rfl ?_;clear S;intro a S
   refine Ld (Tn ?_)
   exact ⟨_, h, hk10, S.nf [] rfl (subR rfl)⟩
  ·replace h := iteF h hb3
   iterate 3 (refine l_skip S rfl rfl rfl (neq_f hb3) rfl ?_ rfl;clear S;intro a S)
   refine lv S (rn_and_f true hb3 (S.tm rfl) rfl) rfl ?_;clear S;intro a S
   refine Ld (Tn ?_)
   exact ⟨_, h, Keep.refl _ _, S.nf [] rfl (subR rfl)⟩
 clear S h;rintro a w11 ⟨c1, h, hk11, S⟩;rw [hj2] at h;clear hj2 j2
 refine lv S (Rm (S.tm rfl)) rfl ?_;clear S;intro a S
 refine f_cutm 4 (fun a w' => Keep [] w11 w' ∧ Sx w [] φ3 [] [(12, iV r6.2.2), (15, iV r7.2.2), (63, bV (c1 && (decide (r6.2.1 = r7.2.1))))] 72 a w') ?_ ?_
 ·rcases Bool.eq_false_or_eq_true c1 with hb4 | hb4
  ·refine l_want S rfl rfl rfl hb4 (lv S (Rm (S.tm rfl)) rfl ?_);clear S;intro a S
   refine l_want S rfl rfl rfl hb4 (lv S (Rm (S.tm rfl)) rfl ?_);clear S;intro a S
   refine l_want S rfl rfl rfl hb4 (lv S (rn_eql (S.tm rfl) (S.tm rfl)) rfl ?_);clear S;intro a S
   refine lv S (rn_and_t hb4 (S.tm rfl) (S.tm rfl)) rfl ?_;clear S;intro a S
   refine Ld (Tn ?_)
   exact ⟨Keep.refl _ _, S.nf [] rfl (subR rfl)⟩
  ·iterate 3 (refine l_skip S rfl rfl rfl (neq_f hb4) rfl ?_ rfl;clear S;intro a S)
   refine lv S (rn_and_f (decide (r6.2.1 = r7.2.1)) hb4 (S.tm rfl) rfl) rfl ?_;clear S;intro a S
   refine Ld (Tn ?_)
   exact ⟨Keep.refl _ _, S.nf [] rfl (subR rfl)⟩
 clear S;rintro a w13 ⟨hk12, S⟩
 refine lv S (Rm (S.tm rfl)) rfl ?_;clear S;intro a S
 refine f_cutm 4 (fun a w' => Keep [] w13 w' ∧ Sx w [] φ3 [] [(68, bV ((c1 && (decide (r6.2.1 = r7.2.1))) && (decide (r6.2.2 = r7.2.2))))] 72 a w') ?_ ?_
 ·rcases Bool.eq_false_or_eq_true (c1 && (decide (r6.2.1 = r7.2.1))) with hb5 | hb5
  ·refine l_want S rfl rfl rfl hb5 (lv S (Rm (S.tm rfl)) rfl ?_);clear S;intro a S
   refine l_want S rfl rfl rfl hb5 (lv S (Rm (S.tm rfl)) rfl ?_);clear S;intro a S
   refine l_want S rfl rfl rfl hb5 (lv S (rn_eql (S.tm rfl) (S.tm rfl)) rfl ?_);clear S;intro a S
   refine lv S (rn_and_t hb5 (S.tm rfl) (S.tm rfl)) rfl ?_;clear S;intro a S
   refine Ld (Tn ?_)
   exact ⟨Keep.refl _ _, S.nf [] rfl ⟨rfl, trivial⟩⟩
  ·iterate 3 (refine l_skip S rfl rfl rfl (neq_f hb5) rfl ?_ rfl;clear S;intro a S)
   refine lv S (rn_and_f (decide (r6.2.2 = r7.2.2)) hb5 (S.tm rfl) rfl) rfl ?_;clear S;intro a S
   refine Ld (Tn ?_)
   exact ⟨Keep.refl _ _, S.nf [] rfl ⟨rfl, trivial⟩⟩
 clear S;rintro a w14 ⟨hk13, S⟩
 refine lv S (Rm (S.tm rfl)) rfl ?_;clear S;intro a S
 obtain ⟨j3, hj3, h⟩ := joinE h
 refine f_cutm 2 (fun a w' => ∃ c2, j3 c2 = some r ∧ Keep [] w14 w' ∧ Sx w [] φ3 [] [(71, bV c2)] 72 a w') ?_ ?_
 ·rcases Bool.eq_false_or_eq_true ((c1 && (decide (r6.2.1 = r7.2.1))) && (decide (r6.2.2 = r7.2.2))) with hb6 | hb6
  ·replace h := iteT h hb6
   refine l_want S rfl rfl rfl hb6 ?_
   obtain ⟨r9, hr9, h⟩ := bindE h
   refine l_enter S (fun _ => run_call (vs := []) trivial Tryz.call12) (tumblaw2_dated_ok _ _ hr9) rfl ?_;clear S;intro v9 a w16 hv9 hk14 hn9 S
   subst hv9
   refine lv S (rn_and_t hb6 (S.tm rfl) (S.tm rfl)) rfl ?_;clear S;intro a S
   refine Ld (Tn ?_)
   exact ⟨_, h, hk14, S.nf [] rfl ⟨rfl, trivial⟩⟩
  ·replace h := iteF h hb6
   refine l_skip S rfl rfl rfl (neq_f hb6) rfl ?_ rfl;clear S;intro a S
   refine lv S (rn_and_f true hb6 (S.tm rfl) rfl) rfl ?_;clear S;intro a S
   refine Ld (Tn ?_)
   exact ⟨_, h, Keep.refl _ _, S.nf [] rfl ⟨rfl, trivial⟩⟩
 clear S h;rintro a w15 ⟨c2, h, hk15, S⟩;rw [hj3] at h;clear hj3 j3
 refine lv S (Ra (S.tm rfl)) rfl ?_;clear S;intro a S
 refine Ld (Tn (wp_ret ?_))
 obtain rfl := Option.some.inj h
 exact f_ret S Tryz.results3 rfl rfl
end Go.Proofs.YtkpjakcepffimaaGreatDoor
