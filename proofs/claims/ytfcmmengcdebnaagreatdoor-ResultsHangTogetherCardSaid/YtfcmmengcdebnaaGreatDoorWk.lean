/- Each Go function computes its plain twin,by program. -/
import Derived.Test.YtfcmmengcdebnaaGreatDoorWk3
namespace Go.Proofs.YtfcmmengcdebnaaGreatDoor
open Go
open Go.Proofs.Tryz
theorem AW (w : World) (Ab : Value) (Ah : List Ns) (Af : Slc (view w []) 5 Ab (Ah.map Ns.enc)) (r : Int) (h : Uw Ah = some r) :
    Calls prog 93 [Ab].toArray w (Ret w [] fun _ v _=>v = iV r):=by
 refine Fe func93 rfl ntmps93 rfl fun a S=>?_
 unfold Uw at h
 replace S:=S.k1 0 rfl
 refine Fr (Vk S rfl rfl fun a S=>Dl (Fs (Fr (Vm S rfl rfl fun a S=>lv S (Fq NE (S.tm rfl) (Fj Af)) rfl fun a S=>Vq S It rfl rfl rfl ?_))));clear S;intro a S
 refine Dl (Fc h (S.tm rfl) (fun hb1 h=>?_) (fun hb1 h=>?_))
 ·refine Fr (Vk S rfl rfl fun a S=>Dl (wp_ret (Dt ?_)))
  obtain rfl:=Option.some.inj h
  exact Ej S results93 rfl rfl
 ·refine wp_skip (Tn (Fr (Rx (κ:=ByteArray) (ν:=Bool) S rfl Value.string Value.bool ?_)));clear S;intro a w1 b1 hz1 hk1 S
  refine Va S rfl rfl fun a S=>Dl (Fs (Fr (Vm S rfl rfl fun a S=>lv S (Fq NE (S.tm rfl) (Fj Af)) rfl fun a S=>lv S (Rm rfl) rfl fun a S=>Dl ?_)))
  replace S:=(S.nl [.map b1 (Gt Value.string Value.bool ([] : List (ByteArray × Bool))) ([] : List (ByteArray × Bool)).length] [true] rfl).k4 3 10 11 12 rfl
  obtain ⟨j1,hj1,h⟩:=Ep h
  refine Eg (fun a w'=>∃ x1 : List (ByteArray × Bool),j1 x1 = some r ∧ Sx w [] nov [.map b1 (Gt Value.string Value.bool x1) x1.length] [] 53 a w') ?_ ?_
  ·refine wp_block (Gx (fun (ys1 : List Ns) a w'=>∃ i1 : Nat,∃ x1 : List (ByteArray × Bool),(∃ dn,Ah = dn ++ ys1 ∧ dn.length = i1) ∧ Lc j1 ys1 i1 x1 = some r ∧ Sx w [] nov [.map b1 (Gt Value.string Value.bool x1) x1.length] [(3,.map (some b1)),(10,Ab),(11,iV (Ah.length : Int)),(12,iV (i1 : Int))] 53 a w') List.length Ah ⟨0,([] : List (ByteArray × Bool)),⟨[],rfl,rfl⟩,h,S.nf [true] rfl (subR rfl)⟩ ?_)
   clear S h;rintro ys1 a w2 ⟨i1,x1,⟨dn,hd1,hi1⟩,h,S⟩
   cases ys1 with
   | nil =>
    rw [Lc.eq_1] at h
    refine Fr (Vb S Et rfl rfl rfl fun a S=>Ld ?_)
    replace S:=S.k5 3 10 11 12 13 rfl
    exact Tn (Fs (wp_cond_false ((S.tm rfl).trans (congrArg Value.bool (Il hd1 hi1))) (wp_exit (Ed (Ed (Gp (Tn (⟨x1,h,S.nf [true] rfl trivial⟩))))))))
   | cons y1 ys1 =>
    rw [Lc.eq_2] at h
    refine Fr (Vb S Et rfl rfl rfl fun a S=>Ld ?_)
    replace S:=S.k5 3 10 11 12 13 rfl
    refine Tn (Fs (wp_cond_true ((S.tm rfl).trans (congrArg Value.bool (Ht hd1 hi1))) (wp_skip (Tn (Fs (wp_block (Fs (Fg ?_))))))))
    obtain ⟨b2,o1,hm1,hr1⟩:=Ev (a:=a) (x:=.tmp 10) (y:=.tmp 12) (ty:=0) NE Af (Io hd1 hi1) rfl (S.tm rfl) (S.tm rfl)
    refine lv S (hr1 _) rfl ?_;clear S;intro a S
    clear hr1
    refine lv S (Fp isAgg81 sizeOf81 (off:=o1) (o:=0) (part:=(Ns.enc y1)) rfl rfl (S.tm rfl) (hm1.at S.emb0)) rfl fun a S=>Hs S zeroValue81 (cs:=[sV An,iV 0,iV 0,iV 0,iV 0]) rfl rfl ?_;clear S;intro a w4 b3 hz2 hk2 S
    refine Ex S (S.tm rfl) (S.tm rfl) (i:=0) (off:=0) rfl sizeOf81 (vs:=(Ns.enc y1)) rfl rfl rfl rfl ?_;clear S;intro w5 hk3 S
    refine Dl (Fs (wp_block (Fr (Vf HR S rfl rfl fun a S=>Vl isAgg9 0 S rfl rfl rfl rfl ?_))));clear S;intro a S
    obtain ⟨r1,hr2,h⟩:=Fa h
    refine Dw S (fun _=>Dp (vs:=[sV y1.Key]) ⟨(S.tm rfl),trivial⟩ call95) (Ij _ y1.Key _ hr2) rfl ?_;clear S;intro v1 a w6 hv1 hk4 hn1 S
    subst hv1
    refine Vu S Hj rfl rfl fun a S=>Va S rfl rfl fun a S=>Dl (Fc h (S.tm rfl) (fun hb2 h=>?_) (fun hb2 h=>?_))
    ·refine Fr (Vk S rfl rfl fun a S=>Dl (wp_ret (Fl (Dt (Fl (Dt (Dt ?_)))))))
     refine Fl (Dt (Dt ?_))
     obtain rfl:=Option.some.inj h
     exact Ej S results93 rfl rfl
    ·refine Fr (Vm S rfl rfl fun a S=>Vf HR S rfl rfl fun a S=>Vl isAgg9 0 S rfl rfl rfl rfl fun a S=>lv S (Qa (kv:=Value.string) (vv:=Value.bool) (m:=x1) (key:=y1.Key) (z:=false) (S.map_at (i:=1) rfl) underlying200 (Mx underlying9) zeroValue4 (S.tm rfl) (S.tm rfl)) rfl fun a S=>Va S rfl rfl fun a S=>Ld ?_)
     replace S:=(S.nl [.blk b3 (Ns.enc y1) 81,.map b1 (Gt Value.string Value.bool x1) x1.length] [true,true] rfl).k6 3 5 10 11 12 21 rfl
     refine Tn (Fc h (S.tm rfl) (fun hb3 h=>?_) (fun hb3 h=>?_))
     ·refine Fr (Vk S rfl rfl fun a S=>Dl (wp_ret (Fl (Dt (Fl (Dt (Dt ?_)))))))
      refine Fl (Dt (Dt ?_))
      obtain rfl:=Option.some.inj h
      exact Ej S results93 rfl rfl
     ·refine Fr (Vf LU S rfl rfl fun a S=>Vl isAgg3 0 S rfl rfl rfl rfl fun a S=>Dw S (fun _=>Dp (vs:=[iV y1.Heats,iV 1,iV 60]) ⟨(S.tm rfl),rfl,rfl,trivial⟩ call55) (Fm _ y1.Heats 1 60 _ rfl) rfl ?_);clear S;intro v2 a w7 hv2 hk5 hn2 S
      subst hv2
      refine Vu S Hj rfl rfl fun a S=>Vm S rfl rfl fun a S=>Hn 5 (fun a w'=>Keep [] w7 w' ∧ Sx w [] nov [.blk b3 (Ns.enc y1) 81,.map b1 (Gt Value.string Value.bool x1) x1.length] [(3,.map (some b1)),(5,.pointer (some ⟨b3,0,none⟩)),(10,Ab),(11,iV (Ah.length : Int)),(12,iV (i1 : Int)),(36,bV ((!(Dv y1.Heats 1 60)) || (!(Dv y1.Long 1 3600000))))] 53 a w') ?_ ?_
      ·rcases Bool.eq_false_or_eq_true (!(Dv y1.Heats 1 60)) with hb4 | hb4
       ·iterate 4 (refine Gn S rfl rfl rfl (Kp hb4) rfl ?_ rfl;clear S;intro a S)
        exact lv S (Jq (!(Dv y1.Long 1 3600000)) hb4 (S.tm rfl) rfl) rfl fun a S=>Dl (⟨Keep.refl _ _,S.nf [true,true] rfl (subR rfl)⟩)
       ·refine Du S rfl rfl rfl hb4 (Vf LV S rfl rfl fun a S=>Du S rfl rfl rfl hb4 (Vl isAgg3 0 S rfl rfl rfl rfl fun a S=>Du S rfl rfl rfl hb4 (Dw S (fun _=>Dp (vs:=[iV y1.Long,iV 1,iV 3600000]) ⟨(S.tm rfl),rfl,rfl,trivial⟩ call55) (Fm _ y1.Long 1 3600000 _ rfl) rfl ?_)));clear S;intro v3 a w9 hv3 hk6 hn3 S
        subst hv3
        exact Du S rfl rfl rfl hb4 (Vu S Hj rfl rfl fun a S=>lv S (Jr hb4 (S.tm rfl) (S.tm rfl)) rfl fun a S=>Dl (⟨hk6,S.nf [true,true] rfl (subR rfl)⟩))
      clear S;rintro a w8 ⟨hk7,S⟩
      refine Vm S rfl rfl fun a S=>Hn 5 (fun a w'=>Keep [] w8 w' ∧ Sx w [] nov [.blk b3 (Ns.enc y1) 81,.map b1 (Gt Value.string Value.bool x1) x1.length] [(3,.map (some b1)),(5,.pointer (some ⟨b3,0,none⟩)),(10,Ab),(11,iV (Ah.length : Int)),(12,iV (i1 : Int)),(42,bV (((!(Dv y1.Heats 1 60)) || (!(Dv y1.Long 1 3600000))) || (!(Dv y1.Gap 0 3600000))))] 53 a w') ?_ ?_
      ·rcases Bool.eq_false_or_eq_true ((!(Dv y1.Heats 1 60)) || (!(Dv y1.Long 1 3600000))) with hb5 | hb5
       ·iterate 4 (refine Gn S rfl rfl rfl (Kp hb5) rfl ?_ rfl;clear S;intro a S)
        exact lv S (Jq (!(Dv y1.Gap 0 3600000)) hb5 (S.tm rfl) rfl) rfl fun a S=>Dl (⟨Keep.refl _ _,S.nf [true,true] rfl (subR rfl)⟩)
       ·refine Du S rfl rfl rfl hb5 (Vf QM S rfl rfl fun a S=>Du S rfl rfl rfl hb5 (Vl isAgg3 0 S rfl rfl rfl rfl fun a S=>Du S rfl rfl rfl hb5 (Dw S (fun _=>Dp (vs:=[iV y1.Gap,iV 0,iV 3600000]) ⟨(S.tm rfl),rfl,rfl,trivial⟩ call55) (Fm _ y1.Gap 0 3600000 _ rfl) rfl ?_)));clear S;intro v4 a w11 hv4 hk8 hn4 S
        subst hv4
        exact Du S rfl rfl rfl hb5 (Vu S Hj rfl rfl fun a S=>lv S (Jr hb5 (S.tm rfl) (S.tm rfl)) rfl fun a S=>Dl (⟨hk8,S.nf [true,true] rfl (subR rfl)⟩))
      clear S;rintro a w10 ⟨hk9,S⟩
      refine Vm S rfl rfl fun a S=>Hn 5 (fun a w'=>Keep [] w10 w' ∧ Sx w [] nov [.blk b3 (Ns.enc y1) 81,.map b1 (Gt Value.string Value.bool x1) x1.length] [(3,.map (some b1)),(5,.pointer (some ⟨b3,0,none⟩)),(10,Ab),(11,iV (Ah.length : Int)),(12,iV (i1 : Int)),(48,bV ((((!(Dv y1.Heats 1 60)) || (!(Dv y1.Long 1 3600000))) || (!(Dv y1.Gap 0 3600000))) || (!(Dv y1.Break 0 3600000))))] 53 a w') ?_ ?_
      ·rcases Bool.eq_false_or_eq_true (((!(Dv y1.Heats 1 60)) || (!(Dv y1.Long 1 3600000))) || (!(Dv y1.Gap 0 3600000))) with hb6 | hb6
       ·iterate 4 (refine Gn S rfl rfl rfl (Kp hb6) rfl ?_ rfl;clear S;intro a S)
        exact lv S (Jq (!(Dv y1.Break 0 3600000)) hb6 (S.tm rfl) rfl) rfl fun a S=>Dl (⟨Keep.refl _ _,S.nf [true,true] rfl (subR rfl)⟩)
       ·refine Du S rfl rfl rfl hb6 (Vf QO S rfl rfl fun a S=>Du S rfl rfl rfl hb6 (Vl isAgg3 0 S rfl rfl rfl rfl fun a S=>Du S rfl rfl rfl hb6 (Dw S (fun _=>Dp (vs:=[iV y1.Break,iV 0,iV 3600000]) ⟨(S.tm rfl),rfl,rfl,trivial⟩ call55) (Fm _ y1.Break 0 3600000 _ rfl) rfl ?_)));clear S;intro v5 a w13 hv5 hk10 hn5 S
        subst hv5
        exact Du S rfl rfl rfl hb6 (Vu S Hj rfl rfl fun a S=>lv S (Jr hb6 (S.tm rfl) (S.tm rfl)) rfl fun a S=>Dl (⟨hk10,S.nf [true,true] rfl (subR rfl)⟩))
      clear S;rintro a w12 ⟨hk11,S⟩
      refine Va S rfl rfl fun a S=>Dl (Fc h (S.tm rfl) (fun hb7 h=>?_) (fun hb7 h=>?_))
      ·refine Fr (Vk S rfl rfl fun a S=>Dl (wp_ret (Fl (Dt (Fl (Dt (Dt ?_)))))))
       refine Fl (Dt (Dt ?_))
       obtain rfl:=Option.some.inj h
       exact Ej S results93 rfl rfl
      ·refine wp_skip (Ho (Tn (Fg (Vm S rfl rfl fun a S=>Vf HR S rfl rfl fun a S=>Vl isAgg9 0 S rfl rfl rfl rfl fun a S=>Pc (kv:=Value.string) (vv:=Value.bool) (m:=x1) (key:=y1.Key) (val:=true) S (i:=1) rfl underlying200 (Mx underlying9) (S.tm rfl) (S.tm rfl) rfl ?_))));clear S;intro w14 hk12 S
       exact Ld (Ho (Tn (Fg (Vq S Gc rfl rfl rfl fun a S=>Vm S rfl rfl fun a S=>Dl (⟨ys1,⟨i1 + 1,(Gl x1 y1.Key true),⟨_,(hd1).trans (List.append_cons _ _ _),by simp [hi1]⟩,h,S.nf [false,true] rfl ⟨rfl,rfl,rfl,(congrArg (fun z=>some (Value.int .i64 z)) (Hu hd1 hi1 (Iz Af))),trivial⟩⟩,Nat.lt_succ_self _⟩)))))
  clear S h;rintro a w3 ⟨x1,h,S⟩;rw [hj1] at h;clear hj1 j1
  refine Tn (Fr (Vk S rfl rfl fun a S=>Dl (wp_ret ?_)))
  obtain rfl:=Option.some.inj h
  exact Ej S results93 rfl rfl
theorem BS (w : World) (Ab : Value) (Ah : List Ns) (Af : Slc (view w []) 5 Ab (Ah.map Ns.enc)) (Bj : Int) (r : (List Ks)) (h : Vt Ah Bj = some r) :
    Calls prog 116 [Ab,iV Bj].toArray w (Ret w [] fun τ v _=>Tf τ 179 4 v r.length (r.flatMap Ks.enc)):=by
 refine Fe func116 rfl ntmps116 rfl fun a S=>?_
 unfold Vt at h
 replace S:=S.k2 0 1 rfl
 refine Fr (Vk S rfl rfl fun a S=>Dz (Vk S rfl rfl ?_));clear S;intro a S
 replace S:=S.nil 179 4
 refine Dz (Vm S rfl rfl fun a S=>Va S rfl rfl fun a S=>Dl (Fs (Fs (Fg ?_))))
 refine Vm S rfl rfl fun a S=>lv S (Fq NE (S.tm rfl) (Fj Af)) rfl fun a S=>lv S (Rm rfl) rfl fun a S=>Dl ?_
 replace S:=(S.nl [.own (.slice none 0 0) 179 4 ([] : List Ks).length (([] : List Ks).flatMap Ks.enc)] [true] rfl).k5 5 6 11 12 13 rfl
 obtain ⟨j1,hj1,h⟩:=Ep h
 refine Eg (fun a w'=>∃ x1 : List Ks,∃ v1 : Value,j1 x1 = some r ∧ Sx w [] nov [.own v1 179 4 x1.length (x1.flatMap Ks.enc)] [(5,v1)] 54 a w') ?_ ?_
 ·refine wp_block (Gx (fun (ys1 : List Ns) a w'=>∃ i1 : Nat,∃ x1 : List Ks,∃ x2 : Int,∃ v1 : Value,(∃ dn,Ah = dn ++ ys1 ∧ dn.length = i1) ∧ Ly j1 ys1 i1 x1 x2 = some r ∧ Sx w [] nov [.own v1 179 4 x1.length (x1.flatMap Ks.enc)] [(5,v1),(6,iV x2),(11,Ab),(12,iV (Ah.length : Int)),(13,iV (i1 : Int))] 54 a w') List.length Ah ⟨0,([] : List Ks),Bj,(.slice none 0 0),⟨[],rfl,rfl⟩,h,S.nf [true] rfl (subR rfl)⟩ ?_)
  clear S h;rintro ys1 a w1 ⟨i1,x1,x2,v1,⟨dn,hd1,hi1⟩,h,S⟩
  cases ys1 with
  | nil =>
   rw [Ly.eq_1] at h
   refine Fr (Vb S Et rfl rfl rfl fun a S=>Ld ?_)
   replace S:=S.k6 5 6 11 12 13 14 rfl
   exact Tn (Fs (wp_cond_false ((S.tm rfl).trans (congrArg Value.bool (Il hd1 hi1))) (wp_exit (Ed (Ed (Gp (Tn (⟨x1,v1,h,S.nf [true] rfl ⟨rfl,trivial⟩⟩))))))))
  | cons y1 ys1 =>
   rw [Ly.eq_2] at h
   refine Fr (Vb S Et rfl rfl rfl fun a S=>Ld ?_)
   replace S:=S.k6 5 6 11 12 13 14 rfl
   refine Tn (Fs (wp_cond_true ((S.tm rfl).trans (congrArg Value.bool (Ht hd1 hi1))) (wp_skip (Tn (Fs (wp_block (Fs (Fg ?_))))))))
   obtain ⟨b1,o1,hm1,hr1⟩:=Ev (a:=a) (x:=.tmp 11) (y:=.tmp 13) (ty:=0) NE Af (Io hd1 hi1) rfl (S.tm rfl) (S.tm rfl)
   refine lv S (hr1 _) rfl ?_;clear S;intro a S
   clear hr1
   refine lv S (Fp isAgg81 sizeOf81 (off:=o1) (o:=0) (part:=(Ns.enc y1)) rfl rfl (S.tm rfl) (hm1.at S.emb0)) rfl fun a S=>Hs S zeroValue81 (cs:=[sV An,iV 0,iV 0,iV 0,iV 0]) rfl rfl ?_;clear S;intro a w3 b2 hz1 hk1 S
   refine Ex S (S.tm rfl) (S.tm rfl) (i:=0) (off:=0) rfl sizeOf81 (vs:=(Ns.enc y1)) rfl rfl rfl rfl ?_;clear S;intro w4 hk2 S
   refine Dl (Fs (Fr (Vk S rfl rfl fun a S=>Dl ?_)))
   replace S:=(S.nl [.blk b2 (Ns.enc y1) 81,.own v1 179 4 x1.length (x1.flatMap Ks.enc)] [true,true] rfl).k7 5 6 8 9 11 12 13 rfl
   obtain ⟨j2,hj2,h⟩:=Ep h
   refine Eg (fun a w'=>∃ x3 : List Ks,∃ x4 : Int,∃ v2 : Value,j2 x3 x4 = some r ∧ Sx w [] nov [.blk b2 (Ns.enc y1) 81,.own v2 179 4 x3.length (x3.flatMap Ks.enc)] [(5,v2),(6,iV x4),(8,.pointer (some ⟨b2,0,none⟩)),(11,Ab),(12,iV (Ah.length : Int)),(13,iV (i1 : Int))] 54 a w') ?_ ?_
   ·refine wp_block (Gx (fun (m1 : Nat) a w'=>∃ x3 : List Ks,∃ x4 : Int,∃ x5 : Int,∃ v2 : Value,Lx y1 j2 m1 x3 x4 x5 = some r ∧ Sx w [] nov [.blk b2 (Ns.enc y1) 81,.own v2 179 4 x3.length (x3.flatMap Ks.enc)] [(5,v2),(6,iV x4),(8,.pointer (some ⟨b2,0,none⟩)),(9,iV x5),(11,Ab),(12,iV (Ah.length : Int)),(13,iV (i1 : Int))] 54 a w') id ((y1.Heats - 1).toNat + 2) ⟨x1,x2,1,v1,h,S.nf [true,true] rfl (subR rfl)⟩ ?_)
    clear S h;rintro m1 a w5 ⟨x3,x4,x5,v2,h,S⟩
    cases m1 with
    | zero=>rw [Lx.eq_1] at h;cases h
    | succ m1 =>
     rw [Lx.eq_2] at h
     refine Fs (Fr (Vm S rfl rfl fun a S=>Vf LU S rfl rfl fun a S=>Vl isAgg3 0 S rfl rfl rfl rfl fun a S=>Vb S Uv rfl rfl rfl fun a S=>Dl (Fc h (S.tm rfl) (fun hb1 h=>?_) (fun hb1 h=>?_))))
     ·refine wp_skip (Tn (Fs ?_))
      obtain ⟨j3,hj3,h⟩:=Ep h
      refine Eg (fun a w'=>∃ x6 : List Ks,∃ x7 : Int,∃ v3 : Value,j3 x6 x7 = some r ∧ Sx w [] nov [.blk b2 (Ns.enc y1) 81,.own v3 179 4 x6.length (x6.flatMap Ks.enc)] [(5,v3),(6,iV x7),(8,.pointer (some ⟨b2,0,none⟩)),(9,iV x5),(11,Ab),(12,iV (Ah.length : Int)),(13,iV (i1 : Int))] 54 a w') ?_ ?_
      ·refine wp_block (Fr (Vm S rfl rfl fun a S=>Vf HR S rfl rfl fun a S=>Vl isAgg9 0 S rfl rfl rfl rfl ?_));clear S;intro a S
       iterate 3 (refine Vm S rfl rfl ?_;clear S;intro a S)
       refine Vf LV S rfl rfl fun a S=>Vl isAgg3 0 S rfl rfl rfl rfl fun a S=>Vb S Gc rfl rfl rfl fun a S=>lv S (Mr bt_177 (pv:=[(0,iV x4),(1,iV (W (x4 + y1.Long)))]) ⟨rfl,(S.tm rfl),rfl,(S.tm rfl),trivial⟩ (cs:=[iV x4,iV (W (x4 + y1.Long))]) (by kernel_rfl)) rfl fun a S=>lv S (Mr bt_179 (pv:=[(0,sV y1.Key),(1,iV x5),(2,.agg #[iV x4,iV (W (x4 + y1.Long))])]) ⟨rfl,(S.tm rfl),rfl,(S.tm rfl),rfl,(S.tm rfl),trivial⟩ (cs:=[sV y1.Key,iV x5,iV x4,iV (W (x4 + y1.Long))]) (by kernel_rfl)) rfl fun a S=>Er S underlying141 sizeOf179 zeroValue179 rfl rfl (pv:=[(0,.agg #[sV y1.Key,iV x5,iV x4,iV (W (x4 + y1.Long))])]) ⟨rfl,(S.tm rfl),trivial⟩ (cs:=[sV y1.Key,iV x5,iV x4,iV (W (x4 + y1.Long))]) (by kernel_rfl) rfl ?_;clear S;intro a w8 b3 hz2 hk3 S
       obtain ⟨hc1,h⟩:=Ie h
       refine Ms LN Ks.enc_ok S (S.tm rfl) (i:=2) rfl (S.tm rfl) (j:=0) rfl (ys:=[(Ks.mk y1.Key x5 (Tu.mk x4 (W (x4 + y1.Long))))]) rfl rfl rfl rfl (by have:=Nd hc1;omega) rfl ?_;clear S;intro v4 a w9 hk4 S
       refine Va S rfl rfl fun a S=>Ld ?_
       replace S:=(S.nl [.blk b2 (Ns.enc y1) 81,.own v4 179 4 (x3 ++ [(Ks.mk y1.Key x5 (Tu.mk x4 (W (x4 + y1.Long))))]).length ((x3 ++ [(Ks.mk y1.Key x5 (Tu.mk x4 (W (x4 + y1.Long))))]).flatMap Ks.enc)] [false,true,true] rfl).k7 5 6 8 9 11 12 13 rfl
       refine Tn (Fr (Vm S rfl rfl fun a S=>Vf LV S rfl rfl fun a S=>Vl isAgg3 0 S rfl rfl rfl rfl fun a S=>Vb S Gc rfl rfl rfl fun a S=>Va S rfl rfl fun a S=>Dl (Fs ?_)))
       refine Fg (Vm S rfl rfl fun a S=>Vf LU S rfl rfl fun a S=>Vl isAgg3 0 S rfl rfl rfl rfl fun a S=>Vb S Et rfl rfl rfl fun a S=>Ld ?_)
       replace S:=S.k8 5 6 8 9 11 12 13 43 rfl
       refine Tn ?_
       obtain ⟨j4,hj4,h⟩:=Ep h
       refine Eg (fun a w'=>∃ x8 : Int,j4 x8 = some r ∧ Sx w [] nov [.blk b2 (Ns.enc y1) 81,.own v4 179 4 (x3 ++ [(Ks.mk y1.Key x5 (Tu.mk x4 (W (x4 + y1.Long))))]).length ((x3 ++ [(Ks.mk y1.Key x5 (Tu.mk x4 (W (x4 + y1.Long))))]).flatMap Ks.enc)] [(5,v4),(6,iV x8),(8,.pointer (some ⟨b2,0,none⟩)),(9,iV x5),(11,Ab),(12,iV (Ah.length : Int)),(13,iV (i1 : Int))] 54 a w') ?_ ?_
       ·refine Fc h (S.tm rfl) (fun hb2 h=>?_) (fun hb2 h=>?_)
        ·exact Fg (Vm S rfl rfl fun a S=>Vf QM S rfl rfl fun a S=>Vl isAgg3 0 S rfl rfl rfl rfl fun a S=>Vb S Gc rfl rfl rfl fun a S=>Va S rfl rfl fun a S=>Dl (⟨W ((W (x4 + y1.Long)) + y1.Gap),h,S.nf [true,true] rfl (subR rfl)⟩))
        ·exact wp_skip (Tn (⟨W (x4 + y1.Long),h,S.nf [true,true] rfl (subR rfl)⟩))
       clear S h;rintro a w10 ⟨x8,h,S⟩;rw [hj4] at h;clear hj4 j4
       exact Ho (Tn (⟨(x3 ++ [(Ks.mk y1.Key x5 (Tu.mk x4 (W (x4 + y1.Long))))]),x8,v4,h,S.nf [true,true] rfl (subR rfl)⟩))
      clear S h;rintro a w7 ⟨x6,x7,v3,h,S⟩;rw [hj3] at h;clear hj3 j3
      exact Tn (Fg (Vm S rfl rfl fun a S=>Vq S Gc rfl rfl rfl fun a S=>Va S rfl rfl fun a S=>Dl (⟨m1,⟨x6,x7,W (x5 + 1),v3,h,S.nf [true,true] rfl ⟨rfl,rfl,rfl,rfl,rfl,rfl,rfl,trivial⟩⟩,Nat.lt_succ_self _⟩)))
     ·exact wp_exit (Ed (Ed (Gp (Tn (⟨x3,x4,v2,h,S.nf [true,true] rfl (subR rfl)⟩)))))
   clear S h;rintro a w6 ⟨x3,x4,v2,h,S⟩;rw [hj2] at h;clear hj2 j2
   refine Tn (Fg (Vm S rfl rfl fun a S=>Vf QO S rfl rfl fun a S=>Vl isAgg3 0 S rfl rfl rfl rfl fun a S=>Vb S Gc rfl rfl rfl fun a S=>Va S rfl rfl fun a S=>Ld (Ho (Tn (Fg ?_)))))
   exact Vq S Gc rfl rfl rfl fun a S=>Vm S rfl rfl fun a S=>Dl (⟨ys1,⟨i1 + 1,x3,W (x4 + y1.Break),v2,⟨_,(hd1).trans (List.append_cons _ _ _),by simp [hi1]⟩,h,S.nf [false,true] rfl ⟨rfl,rfl,rfl,rfl,(congrArg (fun z=>some (Value.int .i64 z)) (Hu hd1 hi1 (Iz Af))),trivial⟩⟩,Nat.lt_succ_self _⟩)
 clear S h;rintro a w2 ⟨x1,v1,h,S⟩;rw [hj1] at h;clear hj1 j1
 refine Tn (Fr (Vm S rfl rfl fun a S=>Va S rfl rfl fun a S=>Dl (wp_ret ?_)))
 obtain rfl:=Option.some.inj h
 exact Ej S results116 rfl (Th S (i:=0) rfl rfl)
theorem BT (w : World) (Ab : Value) (Ah : List Ks) (Af : Slc (view w []) 4 Ab (Ah.map Ks.enc)) (Bj : Int) (r : Int) (h : Yq Ah Bj = some r) :
    Calls prog 60 [Ab,iV Bj].toArray w (Ret w [] fun _ v _=>v = iV r):=by
 refine Fe func60 rfl ntmps60 rfl fun a S=>?_
 unfold Yq at h
 replace S:=S.k2 0 1 rfl
 refine Fr (Vk S rfl rfl fun a S=>Dl (Fs (Fr (Vm S rfl rfl fun a S=>lv S (Fq LN (S.tm rfl) (Fj Af)) rfl fun a S=>Vq S Im rfl rfl rfl ?_))));clear S;intro a S
 refine Dl (Fc h (S.tm rfl) (fun hb1 h=>?_) (fun hb1 h=>?_))
 ·refine Fr (Vm S rfl rfl fun a S=>Va S rfl rfl fun a S=>Dl (wp_ret (Dt ?_)))
  obtain rfl:=Option.some.inj h
  exact Ej S results60 rfl rfl
 ·refine wp_skip (Tn (Fr (Vm S rfl rfl fun a S=>Vm S rfl rfl fun a S=>lv S (Fq LN (S.tm rfl) (Fj Af)) rfl fun a S=>Vq S Iu rfl rfl rfl ?_)));clear S;intro a S
  obtain ⟨hc1,h⟩:=Ie h
  obtain ⟨b1,o1,hm1,hr1⟩:=Ev (a:=a) (x:=.tmp 9) (y:=.tmp 12) (ty:=0) LN Af (Dx hc1).1 (Dx hc1).2 (S.tm rfl) (S.tm rfl)
  refine lv S (hr1 _) rfl ?_;clear S;intro a S
  clear hr1
  refine Vf UL S rfl rfl fun a S=>Vf UK S rfl rfl fun a S=>lv S (Hm isAgg3 (off:=o1) (o:=3) (S.tm rfl) (hm1.at S.emb0) rfl) rfl fun a S=>Va S rfl rfl fun a S=>Dl (wp_ret ?_)
  obtain rfl:=Option.some.inj h
  exact Ej S results60 rfl rfl
theorem FY (w : World) (Ab : Value) (Ah : List Ns) (Af : Slc (view w []) 5 Ab (Ah.map Ns.enc)) (Bj : Int) (r : (List Ks) × Int) (h : Yy Ah Bj = some r) :
    Calls prog 94 [Ab,iV Bj].toArray w (Ret w [] fun τ v _=>∃ u1 : Value,v = .tuple #[u1,iV r.2] ∧ Tf τ 179 4 u1 r.1.length (r.1.flatMap Ks.enc)):=by
 refine Fe func94 rfl ntmps94 rfl fun a S=>?_
 unfold Yy at h
 replace S:=S.k2 0 1 rfl
 refine Fr (Vk S rfl rfl fun a S=>Vk S rfl rfl fun a S=>Dl (Fs (Fr (Vm S rfl rfl fun a S=>Dw S (fun _=>Dp (vs:=[iV Bj]) ⟨(S.tm rfl),trivial⟩ call44) (Td _ Bj _ rfl) rfl ?_))));clear S;intro v1 a w1 hv1 hk1 hn1 S
 subst hv1
 refine Vu S Hj rfl rfl fun a S=>Dl (Fc h (S.tm rfl) (fun hb1 h=>?_) (fun hb1 h=>?_))
 ·refine Fr (Vk S rfl rfl fun a S=>Vk S rfl rfl fun a S=>Dl (wp_ret (Dt ?_)))
  obtain rfl:=Option.some.inj h
  exact Lg S results94 rfl rfl ⟨_,rfl,(Qf _ _ _)⟩
 ·refine wp_skip (Tn (Fr (Vm S rfl rfl fun a S=>Vm S rfl rfl ?_)));clear S;intro a S
  obtain ⟨r1,hr1,h⟩:=Fa h
  have hz1:=S.keep.size
  refine Dw S (fun _=>Dp (vs:=[Ab,iV Bj]) ⟨(S.tm rfl),(S.tm rfl),trivial⟩ call116) (BS _ Ab Ah (Af.mono (S.le_arg Ec)) Bj _ hr1) rfl ?_;clear S;intro v2 a w2 hv2 hk2 hn2 S
  obtain ⟨φ1,hl1,hm1,S⟩:=S.see' hn2 hz1
  have hs1:=hv2.mono hm1
  refine Va S rfl rfl fun a S=>Dl (Fs (Fr (Vm S rfl rfl fun a S=>Vm S rfl rfl ?_)));clear S;intro a S
  obtain ⟨r2,hr2,h⟩:=Fa h
  refine Dw S (fun _=>Dp (vs:=[v2,iV Bj]) ⟨(S.tm rfl),(S.tm rfl),trivial⟩ call60) (BT _ v2 r1 ((Ga Ks.enc_ok hs1).mono (S.le_new Ec)) Bj _ hr2) rfl ?_;clear S;intro v3 a w3 hv3 hk3 hn3 S
  subst hv3
  refine Vq S It rfl rfl rfl fun a S=>Ld ?_
  replace S:=S.k2 6 16 rfl
  refine Tn (Fc h (S.tm rfl) (fun hb2 h=>?_) (fun hb2 h=>?_))
  ·refine Fr (Vk S rfl rfl fun a S=>Vk S rfl rfl fun a S=>Dl (wp_ret (Dt ?_)))
   obtain rfl:=Option.some.inj h
   exact Lg S results94 rfl rfl ⟨_,rfl,(Qf _ _ _)⟩
  ·refine wp_skip (Tn (Fr (Vm S rfl rfl fun a S=>Va S rfl rfl fun a S=>Vk S rfl rfl fun a S=>Dl (wp_ret ?_))))
   obtain rfl:=Option.some.inj h
   exact Lg S results94 rfl rfl ⟨_,rfl,((hs1).mono S.le_newer)⟩
theorem BU (w : World) (Ab : Value) (Ah : List Ns) (Af : Slc (view w []) 5 Ab (Ah.map Ns.enc)) (Bj : Int) (r : (List Ks) × Int) (h : Vv Ah Bj = some r) :
    Calls prog 59 [Ab,iV Bj].toArray w (Ret w [] fun τ v _=>∃ u1 : Value,v = .tuple #[u1,iV r.2] ∧ Tf τ 179 4 u1 r.1.length (r.1.flatMap Ks.enc)):=by
 refine Fe func59 rfl ntmps59 rfl fun a S=>?_
 unfold Vv at h
 replace S:=S.k2 0 1 rfl
 refine Fr (Vk S rfl rfl fun a S=>Vk S rfl rfl fun a S=>Dl (Fs (Fr (Vm S rfl rfl ?_))));clear S;intro a S
 obtain ⟨r1,hr1,h⟩:=Fa h
 refine Dw S (fun _=>Dp (vs:=[Ab]) ⟨(S.tm rfl),trivial⟩ call93) (AW _ Ab Ah (Af.mono (S.le_arg Ec)) _ hr1) rfl ?_;clear S;intro v1 a w1 hv1 hk1 hn1 S
 subst hv1
 refine Va S rfl rfl fun a S=>Dz (Vm S rfl rfl fun a S=>Vq S Kw rfl rfl rfl fun a S=>Dl (Fc h (S.tm rfl) (fun hb1 h=>?_) (fun hb1 h=>?_)))
 ·refine Fr (Vm S rfl rfl fun a S=>Vk S rfl rfl fun a S=>Va S rfl rfl fun a S=>Dl (wp_ret (Dt ?_)))
  obtain rfl:=Option.some.inj h
  exact Lg S results59 rfl rfl ⟨_,rfl,(Qf _ _ _)⟩
 ·refine wp_skip (Tn (Fr (Vm S rfl rfl fun a S=>Vm S rfl rfl ?_)));clear S;intro a S
  obtain ⟨r2,hr2,h⟩:=Fa h
  have hz1:=S.keep.size
  refine Dw S (fun _=>Dp (vs:=[Ab,iV Bj]) ⟨(S.tm rfl),(S.tm rfl),trivial⟩ call94) (FY _ Ab Ah (Af.mono (S.le_arg Ec)) Bj _ hr2) rfl ?_;clear S;intro v2 a w2 hv2 hk2 hn2 S
  obtain ⟨u1,rfl,ho1⟩:=hv2
  obtain ⟨φ1,hl1,hm1,S⟩:=S.see' hn2 hz1
  have hs1:=ho1.mono hm1
  refine Vq S Gb rfl rfl rfl fun a S=>Vq S Gb rfl rfl rfl fun a S=>Va S rfl rfl fun a S=>Va S rfl rfl fun a S=>Dl (wp_ret ?_)
  obtain rfl:=Option.some.inj h
  exact Lg S results59 rfl rfl ⟨_,rfl,((hs1).mono S.le_newer)⟩
theorem HF (w : World) (Ab : Value) (Ah : List Ns) (Af : Slc (view w []) 5 Ab (Ah.map Ns.enc)) (Bj : Int) (r : Int × Int) (h : Zy Ah Bj = some r) :
    Calls prog 27 [Ab,iV Bj].toArray w (Ret w [] fun _ v _=>v = .tuple #[iV r.1,iV r.2]):=by
 refine Fe func27 rfl ntmps27 rfl fun a S=>?_
 unfold Zy at h
 replace S:=S.k2 0 1 rfl
 refine Fr (Vk S rfl rfl fun a S=>Vk S rfl rfl fun a S=>Dz (Vm S rfl rfl fun a S=>Vm S rfl rfl ?_));clear S;intro a S
 obtain ⟨r1,hr1,h⟩:=Fa h
 have hz1:=S.keep.size
 refine Dw S (fun _=>Dp (vs:=[Ab,iV Bj]) ⟨(S.tm rfl),(S.tm rfl),trivial⟩ call59) (BU _ Ab Ah (Af.mono (S.le_arg Ec)) Bj _ hr1) rfl ?_;clear S;intro v1 a w1 hv1 hk1 hn1 S
 obtain ⟨u1,rfl,ho1⟩:=hv1
 obtain ⟨φ1,hl1,hm1,S⟩:=S.see' hn1 hz1
 have hs1:=ho1.mono hm1
 refine Vm S rfl rfl fun a S=>Vq S Gb rfl rfl rfl fun a S=>Vq S Gb rfl rfl rfl fun a S=>Va S rfl rfl fun a S=>Va S rfl rfl fun a S=>Dl (Fs (Fr (Vm S rfl rfl ?_)));clear S;intro a S
 refine Vq S Kw rfl rfl rfl fun a S=>Dl (Fc h (S.tm rfl) (fun hb1 h=>?_) (fun hb1 h=>?_))
 ·refine Fr (Vm S rfl rfl fun a S=>Vk S rfl rfl fun a S=>Va S rfl rfl fun a S=>Ld ?_)
  replace S:=S.k2 4 5 rfl
  refine Tn (wp_ret (Dt ?_))
  obtain rfl:=Option.some.inj h
  exact Lg S results27 rfl rfl rfl
 ·refine wp_skip (Tn (Fr (Vm S rfl rfl fun a S=>Vm S rfl rfl ?_)));clear S;intro a S
  obtain ⟨r2,hr2,h⟩:=Fa h
  refine Dw S (fun _=>Dp (vs:=[u1,iV Bj]) ⟨(S.tm rfl),(S.tm rfl),trivial⟩ call60) (BT _ u1 r1.1 ((Ga Ks.enc_ok hs1).mono (S.le_new Ec)) Bj _ hr2) rfl ?_;clear S;intro v2 a w2 hv2 hk2 hn2 S
  subst hv2
  refine Va S rfl rfl fun a S=>Vk S rfl rfl fun a S=>Ld ?_
  replace S:=S.k2 4 5 rfl
  refine Tn (wp_ret ?_)
  obtain rfl:=Option.some.inj h
  exact Lg S results27 rfl rfl rfl
theorem Wm (w : World) (Ba : Int) (r : Bool) (h : Rj Ba = r) :
    Calls prog 63 [iV Ba].toArray w (Ret w [] fun _ v _=>v = bV r):=by
 refine Fe func63 rfl ntmps63 rfl fun a S=>?_
 unfold Rj at h
 replace S:=S.k1 0 rfl
 refine Fr (Vk S rfl rfl fun a S=>Dz (Vm S rfl rfl fun a S=>Dw S (fun _=>Dp (vs:=[iV Ba,iV 1,iV 360000]) ⟨(S.tm rfl),rfl,rfl,trivial⟩ call55) (Fm _ Ba 1 360000 _ rfl) rfl ?_));clear S;intro v1 a w1 hv1 hk1 hn1 S
 subst hv1
 refine Va S rfl rfl fun a S=>Dl (wp_ret ?_)
 subst h
 exact Ej S results63 rfl rfl
set_option maxRecDepth 20000 in
theorem CZ (w : World) (Ab : Value) (Ah : List Rp) (Af : Slc (view w []) 2 Ab (Ah.map Rp.enc)) (r : Int) (h : Wj Ah = some r) :
    Calls prog 61 [Ab].toArray w (Ret w [] fun _ v _=>v = iV r):=by
 refine Fe func61 rfl ntmps61 rfl fun a S=>?_
 unfold Wj at h
 replace S:=S.k1 0 rfl
 refine Fr (Vk S rfl rfl fun a S=>Dl (Fs (Fr (Vm S rfl rfl fun a S=>lv S (Fq KM (S.tm rfl) (Fj Af)) rfl fun a S=>Vq S It rfl rfl rfl ?_))));clear S;intro a S
 refine Dl (Fc h (S.tm rfl) (fun hb1 h=>?_) (fun hb1 h=>?_))
 ·refine Fr (Vk S rfl rfl fun a S=>Dl (wp_ret (Dt ?_)))
  obtain rfl:=Option.some.inj h
  exact Ej S results61 rfl rfl
 ·refine wp_skip (Tn (Fs (Fr (Vm S rfl rfl fun a S=>lv S (Fq KM (S.tm rfl) (Fj Af)) rfl fun a S=>lv S (Rm rfl) rfl fun a S=>Dl ?_))))
  replace S:=S.k4 0 8 9 10 rfl
  obtain ⟨j1,hj1,h⟩:=Ep h
  refine Eg (fun a w'=>j1 = some r ∧ Sx w [] nov [] [] 40 a w') ?_ ?_
  ·refine wp_block (Gx (fun (ys1 : List Rp) a w'=>∃ i1 : Nat,(∃ dn,Ah = dn ++ ys1 ∧ dn.length = i1) ∧ Ml Ah j1 ys1 i1 = some r ∧ Sx w [] nov [] [(0,Ab),(8,Ab),(9,iV (Ah.length : Int)),(10,iV (i1 : Int))] 40 a w') List.length Ah ⟨0,⟨[],rfl,rfl⟩,h,S.nf [] rfl (subR rfl)⟩ ?_)
   clear S h;rintro ys1 a w1 ⟨i1,⟨dn,hd1,hi1⟩,h,S⟩
   cases ys1 with
   | nil =>
    rw [Ml.eq_1] at h
    refine Fr (Vb S Et rfl rfl rfl fun a S=>Ld ?_)
    replace S:=S.k5 0 8 9 10 11 rfl
    exact Tn (Fs (wp_cond_false ((S.tm rfl).trans (congrArg Value.bool (Il hd1 hi1))) (wp_exit (Ed (Ed (Gp (Tn (⟨h,S.nf [] rfl trivial⟩))))))))
   | cons y1 ys1 =>
    rw [Ml.eq_2] at h
    refine Fr (Vb S Et rfl rfl rfl fun a S=>Ld ?_)
    replace S:=S.k5 0 8 9 10 11 rfl
    refine Tn (Fs (wp_cond_true ((S.tm rfl).trans (congrArg Value.bool (Ht hd1 hi1))) (wp_skip (Tn (Fs (wp_block (Fr (Vm S rfl rfl ?_))))))));clear S;intro a S
    obtain ⟨b1,o1,hm1,hr1⟩:=Ev (a:=a) (x:=.tmp 8) (y:=.tmp 10) (ty:=0) KM Af (Io hd1 hi1) rfl (S.tm rfl) (S.tm rfl)
    refine lv S (hr1 _) rfl ?_;clear S;intro a S
    clear hr1
    refine lv S (Fp isAgg85 sizeOf85 (off:=o1) (o:=0) (part:=(Rp.enc y1)) rfl rfl (S.tm rfl) (hm1.at S.emb0)) rfl fun a S=>Hs S zeroValue85 (cs:=[sV An,iV 0]) rfl rfl ?_;clear S;intro a w3 b2 hz1 hk1 S
    refine Va S rfl rfl fun a S=>Ex S (S.tm rfl) (S.tm rfl) (i:=0) (off:=0) rfl sizeOf85 (vs:=(Rp.enc y1)) rfl rfl rfl rfl ?_;clear S;intro w4 hk2 S
    refine Dl (wp_block (Fr (Vf HS S rfl rfl fun a S=>Vl isAgg9 0 S rfl rfl rfl rfl ?_)));clear S;intro a S
    obtain ⟨r1,hr2,h⟩:=Fa h
    refine Dw S (fun _=>Dp (vs:=[sV y1.Race]) ⟨(S.tm rfl),trivial⟩ call95) (Ij _ y1.Race _ hr2) rfl ?_;clear S;intro v1 a w5 hv1 hk3 hn1 S
    subst hv1
    refine Vu S Hj rfl rfl fun a S=>Va S rfl rfl fun a S=>Ld ?_
    replace S:=(S.nl [.blk b2 (Rp.enc y1) 85] [true] rfl).k7 0 3 4 8 9 10 15 rfl
    refine Tn (Fc h (S.tm rfl) (fun hb2 h=>?_) (fun hb2 h=>?_))
    ·refine Fr (Vk S rfl rfl fun a S=>Dl (wp_ret (Fl (Fl (Dt (Dt (Fl ?_)))))))
     refine Dt (Dt ?_)
     obtain rfl:=Option.some.inj h
     exact Ej S results61 rfl rfl
    ·refine Fs (Hd [] ([]) Tryz.mixed S rfl (by kernel_rfl) ?_);clear S;intro w6 hk4 hsel S
     refine Lw [0,1,2,3,4,5,6,7,8,9,10,11,12,13] hsel (by kernel_rfl) rfl ?_
     clear hsel
     refine Gm S rfl (Rm (S.tm rfl)) rfl fun a S=>Gm S rfl (It (S.tm rfl) rfl) rfl fun a S=>Gm S rfl (Rm (S.tm rfl)) rfl ?_;clear S;intro a S
     obtain ⟨j2,hj2,h⟩:=Ep h
     refine Ue 10 (fun a w'=>∃ c1,j2 c1 = some r ∧ Keep [] w6 w' ∧ Sx w [] nov [.blk b2 (Rp.enc y1) 85] [(0,Ab),(4,.pointer (some ⟨b2,0,none⟩)),(8,Ab),(9,iV (Ah.length : Int)),(10,iV (i1 : Int)),(33,bV c1)] 40 a w') ?_ ?_
     ·rcases Bool.eq_false_or_eq_true (decide (0 < (i1 : Int))) with hb3 | hb3
      ·replace h:=Qc h hb3
       refine Ee S rfl rfl rfl rfl hb3 (Fb S (Fy HS (S.tm rfl)) rfl fun a S=>Ee S rfl rfl rfl rfl hb3 (Fb S (La isAgg9 (S.tm rfl) (S.cell (i:=0) rfl rfl)) rfl fun a S=>Ee S rfl rfl rfl rfl hb3 (Fb S (Rm (S.tm rfl)) rfl fun a S=>Ee S rfl rfl rfl rfl hb3 (Fb S (Rm (S.tm rfl)) rfl fun a S=>Ee S rfl rfl rfl rfl hb3 (Fb S (Iu (S.tm rfl) rfl) rfl fun a S=>Ee S rfl rfl rfl rfl hb3 ?_)))))
       obtain ⟨hc1,h⟩:=Ie h
       obtain ⟨b3,o2,hm2,hr3⟩:=Ev (a:=a) (x:=.tmp 26) (y:=.tmp 28) (ty:=0) KM Af (Dx hc1).1 (Dx hc1).2 (S.tm rfl) (S.tm rfl)
       refine Fb S (hr3 _) rfl ?_;clear S;intro a S
       clear hr3
       exact Ee S rfl rfl rfl rfl hb3 (Fb S (Fy HS (S.tm rfl)) rfl fun a S=>Ee S rfl rfl rfl rfl hb3 (Fb S (Hm isAgg9 (off:=o2) (o:=0) (S.tm rfl) (hm2.at S.emb0) rfl) rfl fun a S=>Ee S rfl rfl rfl rfl hb3 (Fb S (HH (S.tm rfl) (S.tm rfl)) rfl fun a S=>Gm S rfl (Hg hb3 (S.tm rfl) (S.tm rfl)) rfl fun a S=>Hv (⟨_,h,Keep.refl _ _,S.nf [true] rfl (subR rfl)⟩))))
      ·replace h:=Qd h hb3
       iterate 9 (refine Nk S rfl rfl rfl rfl (Jh hb3) rfl ?_ rfl;clear S;intro a S)
       exact Gm S rfl (Hh true hb3 (S.tm rfl) rfl) rfl fun a S=>Hv (⟨_,h,Keep.refl _ _,S.nf [true] rfl (subR rfl)⟩)
     clear S h;rintro a w7 ⟨c1,h,hk5,S⟩;rw [hj2] at h;clear hj2 j2
     refine Gm S rfl (Ra (S.tm rfl)) rfl fun a S=>Hv ?_
     replace S:=S.k6 0 4 8 9 10 20 rfl
     refine Tn (Fc h (S.tm rfl) (fun hb4 h=>?_) (fun hb4 h=>?_))
     ·refine Fr (Vk S rfl rfl fun a S=>Dl (wp_ret (Fl (Fl (Dt (Dt (Fl ?_)))))))
      refine Dt (Dt ?_)
      obtain rfl:=Option.some.inj h
      exact Ej S results61 rfl rfl
     ·refine Fr (Vf QP S rfl rfl fun a S=>Vl isAgg3 0 S rfl rfl rfl rfl fun a S=>Dw S (fun _=>Dp (vs:=[iV y1.Time]) ⟨(S.tm rfl),trivial⟩ call63) (Wm _ y1.Time _ rfl) rfl ?_);clear S;intro v2 a w8 hv2 hk6 hn2 S
      subst hv2
      refine Vu S Hj rfl rfl fun a S=>Va S rfl rfl fun a S=>Dl (Fc h (S.tm rfl) (fun hb5 h=>?_) (fun hb5 h=>?_))
      ·refine Fr (Vk S rfl rfl fun a S=>Dl (wp_ret (Fl (Fl (Dt (Dt (Fl ?_)))))))
       refine Dt (Dt ?_)
       obtain rfl:=Option.some.inj h
       exact Ej S results61 rfl rfl
      ·exact wp_skip (Ho (Ho (Tn (Fg (Vq S Gc rfl rfl rfl fun a S=>Vm S rfl rfl fun a S=>Dl (⟨ys1,⟨i1 + 1,⟨_,(hd1).trans (List.append_cons _ _ _),by simp [hi1]⟩,h,S.nf [false] rfl ⟨rfl,rfl,rfl,(congrArg (fun z=>some (Value.int .i64 z)) (Hu hd1 hi1 (Iz Af))),trivial⟩⟩,Nat.lt_succ_self _⟩))))))
  clear S h;rintro a w2 ⟨h,S⟩;rw [hj1] at h;clear hj1 j1
  refine Tn (Fr (Vk S rfl rfl fun a S=>Dl (wp_ret ?_)))
  obtain rfl:=Option.some.inj h
  exact Ej S results61 rfl rfl
theorem FZ (w : World) (Ab : Value) (Ah : List Rp) (Af : Slc (view w []) 2 Ab (Ah.map Rp.enc)) (Al : ByteArray) (r : Int) (h : Sv Ah Al = r) :
    Calls prog 62 [Ab,sV Al].toArray w (Ret w [] fun _ v _=>v = iV r):=by
 refine Fe func62 rfl ntmps62 rfl fun a S=>?_
 unfold Sv at h
 replace S:=S.k2 0 1 rfl
 refine Fr (Vk S rfl rfl fun a S=>Dl (Fs (Fr (Vm S rfl rfl fun a S=>lv S (Fq KM (S.tm rfl) (Fj Af)) rfl fun a S=>lv S (Rm rfl) rfl ?_))));clear S;intro a S
 refine Dl ?_
 replace S:=S.k4 1 7 8 9 rfl
 obtain ⟨j1,hj1,h⟩:=Ep h
 refine Eg (fun a w'=>j1 = r ∧ Sx w [] nov [] [] 20 a w') ?_ ?_
 ·refine wp_block (Gx (fun (ys1 : List Rp) a w'=>∃ i1 : Nat,(∃ dn,Ah = dn ++ ys1 ∧ dn.length = i1) ∧ Ob Al j1 ys1 i1 = r ∧ Sx w [] nov [] [(1,sV Al),(7,Ab),(8,iV (Ah.length : Int)),(9,iV (i1 : Int))] 20 a w') List.length Ah ⟨0,⟨[],rfl,rfl⟩,h,S.nf [] rfl (subR rfl)⟩ ?_)
  clear S h;rintro ys1 a w1 ⟨i1,⟨dn,hd1,hi1⟩,h,S⟩
  cases ys1 with
  | nil =>
   rw [Ob.eq_1] at h
   refine Fr (Vb S Et rfl rfl rfl fun a S=>Ld ?_)
   replace S:=S.k5 1 7 8 9 10 rfl
   exact Tn (Fs (wp_cond_false ((S.tm rfl).trans (congrArg Value.bool (Il hd1 hi1))) (wp_exit (Ed (Ed (Gp (Tn (⟨h,S.nf [] rfl trivial⟩))))))))
  | cons y1 ys1 =>
   rw [Ob.eq_2] at h
   refine Fr (Vb S Et rfl rfl rfl fun a S=>Ld ?_)
   replace S:=S.k5 1 7 8 9 10 rfl
   refine Tn (Fs (wp_cond_true ((S.tm rfl).trans (congrArg Value.bool (Ht hd1 hi1))) (wp_skip (Tn (Fs (wp_block (Fs (Fg ?_))))))))
   obtain ⟨b1,o1,hm1,hr1⟩:=Ev (a:=a) (x:=.tmp 7) (y:=.tmp 9) (ty:=0) KM Af (Io hd1 hi1) rfl (S.tm rfl) (S.tm rfl)
   refine lv S (hr1 _) rfl ?_;clear S;intro a S
   clear hr1
   refine lv S (Fp isAgg85 sizeOf85 (off:=o1) (o:=0) (part:=(Rp.enc y1)) rfl rfl (S.tm rfl) (hm1.at S.emb0)) rfl fun a S=>Hs S zeroValue85 (cs:=[sV An,iV 0]) rfl rfl ?_;clear S;intro a w3 b2 hz1 hk1 S
   refine Ex S (S.tm rfl) (S.tm rfl) (i:=0) (off:=0) rfl sizeOf85 (vs:=(Rp.enc y1)) rfl rfl rfl rfl ?_;clear S;intro w4 hk2 S
   refine Dz (Vf HS S rfl rfl fun a S=>Vl isAgg9 0 S rfl rfl rfl rfl fun a S=>Vm S rfl rfl fun a S=>Vb S Ve rfl rfl rfl fun a S=>Dl (Fc h (S.tm rfl) (fun hb1 h=>?_) (fun hb1 h=>?_)))
   ·refine Fr (Vf QP S rfl rfl fun a S=>Vl isAgg3 0 S rfl rfl rfl rfl fun a S=>Va S rfl rfl fun a S=>Ld ?_)
    replace S:=S.n0.k1 4 rfl
    refine Tn (wp_ret (Fl (Dt (Dt (Fl (Dt (Dt ?_)))))))
    subst h
    exact Ej S results62 rfl rfl
   ·exact wp_skip (Ho (Tn (Fg (Vq S Gc rfl rfl rfl fun a S=>Vm S rfl rfl fun a S=>Dl (⟨ys1,⟨i1 + 1,⟨_,(hd1).trans (List.append_cons _ _ _),by simp [hi1]⟩,h,S.nf [false] rfl ⟨rfl,rfl,rfl,(congrArg (fun z=>some (Value.int .i64 z)) (Hu hd1 hi1 (Iz Af))),trivial⟩⟩,Nat.lt_succ_self _⟩)))))
 clear S h;rintro a w2 ⟨h,S⟩;rw [hj1] at h;clear hj1 j1
 refine Tn (Fr (Vk S rfl rfl fun a S=>Dl (wp_ret ?_)))
 subst h
 exact Ej S results62 rfl rfl
theorem JQ (w : World) (Ac : Int) (Bl : Int) (r : Int × Int) (h : Sj Ac Bl = r) :
    Calls prog 96 [.int .u64 Ac,.int .u64 Bl].toArray w (Ret w [] fun _ v _=>v = .tuple #[.int .u64 r.1,.int .u64 r.2]):=by
 refine Fe func96 rfl ntmps96 rfl fun a S=>?_
 unfold Sj at h
 replace S:=S.k2 0 1 rfl
 refine Fr (Vk S rfl rfl fun a S=>Vk S rfl rfl fun a S=>Dz (Vm S rfl rfl fun a S=>Vq S EF rfl rfl rfl fun a S=>Va S rfl rfl ?_));clear S;intro a S
 refine Dz (Vm S rfl rfl fun a S=>lv S (Vd (S.tm rfl) rfl (by decide)) rfl fun a S=>Va S rfl rfl fun a S=>Dl (Fs (Fg ?_)))
 refine Vm S rfl rfl fun a S=>Vq S EF rfl rfl rfl fun a S=>Va S rfl rfl fun a S=>Dz (Vm S rfl rfl fun a S=>lv S (Vd (S.tm rfl) rfl (by decide)) rfl fun a S=>Va S rfl rfl fun a S=>Ld ?_)
 replace S:=S.k6 0 1 6 7 8 9 rfl
 refine Tn (Fr (Vm S rfl rfl fun a S=>Vm S rfl rfl fun a S=>Vb S Pg rfl rfl rfl fun a S=>Va S rfl rfl fun a S=>Dl (Fs (Fg ?_))))
 refine Vm S rfl rfl fun a S=>Vm S rfl rfl fun a S=>Vb S Pg rfl rfl rfl fun a S=>Vm S rfl rfl fun a S=>lv S (Vd (S.tm rfl) rfl (by decide)) rfl fun a S=>Vb S Vc rfl rfl rfl fun a S=>Va S rfl rfl fun a S=>Ld ?_
 replace S:=S.k6 0 1 6 7 9 11 rfl
 refine Tn (Fr (Vm S rfl rfl fun a S=>Vq S EF rfl rfl rfl fun a S=>Va S rfl rfl fun a S=>Dz (Vm S rfl rfl ?_)));clear S;intro a S
 refine lv S (Vd (S.tm rfl) rfl (by decide)) rfl fun a S=>Va S rfl rfl fun a S=>Dl (Fs (Fg ?_))
 iterate 3 (refine Vm S rfl rfl ?_;clear S;intro a S)
 refine Vb S Pg rfl rfl rfl fun a S=>Vb S Vc rfl rfl rfl fun a S=>Va S rfl rfl fun a S=>Ld ?_
 replace S:=S.k6 0 1 7 9 12 13 rfl
 refine Tn (Fr (Vm S rfl rfl fun a S=>Vm S rfl rfl fun a S=>Vb S Pg rfl rfl rfl fun a S=>Vm S rfl rfl fun a S=>Vb S Vc rfl rfl rfl fun a S=>Vm S rfl rfl fun a S=>lv S (Vd (S.tm rfl) rfl (by decide)) rfl fun a S=>Vb S Vc rfl rfl rfl ?_));clear S;intro a S
 refine Va S rfl rfl fun a S=>Ld ?_
 replace S:=S.k3 0 1 4 rfl
 refine Tn (Fr (Vm S rfl rfl fun a S=>Vm S rfl rfl fun a S=>Vb S Pg rfl rfl rfl fun a S=>Va S rfl rfl fun a S=>Dl (wp_ret ?_)))
 subst h
 exact Lg S results96 rfl rfl rfl
theorem AI (w : World) (Ac : Int) (r : Int) (h : Ug Ac = some r) :
    Calls prog 118 [.int .u64 Ac].toArray w (Ret w [] fun _ v _=>v = iV r):=by
 refine Fe func118 rfl ntmps118 rfl fun a S=>?_
 unfold Ug at h
 replace S:=S.k1 0 rfl
 refine Fr (Vk S rfl rfl fun a S=>Dz (Vm S rfl rfl ?_));clear S;intro a S
 obtain ⟨r1,hr1,h⟩:=Fa h
 refine Dw S (fun _=>Dp (vs:=[.int .u64 Ac]) ⟨(S.tm rfl),trivial⟩ call132) (DH _ Ac _ hr1) rfl ?_;clear S;intro v1 a w1 hv1 hk1 hn1 S
 subst hv1
 refine Vu S (Iu rfl) rfl rfl fun a S=>Va S rfl rfl fun a S=>Dl (wp_ret ?_)
 obtain rfl:=Option.some.inj h
 exact Ej S results118 rfl rfl
set_option maxRecDepth 20000 in
theorem JR (w : World) (Cj : Int) (Bm : Int) (Bl : Int) (r : Int × Int) (h : DO Cj Bm Bl = some r) :
    Calls prog 97 [.int .u64 Cj,.int .u64 Bm,.int .u64 Bl].toArray w (Ret w [] fun _ v _=>v = .tuple #[.int .u64 r.1,.int .u64 r.2]):=by
 refine Fe func97 rfl ntmps97 rfl fun a S=>?_
 unfold DO at h
 replace S:=S.k3 0 1 2 rfl
 refine Fr (Vk S rfl rfl fun a S=>Vk S rfl rfl fun a S=>Dl (Fs (Fr (Vm S rfl rfl fun a S=>Vq S Im rfl rfl rfl ?_))));clear S;intro a S
 refine Dl (Fc h (S.tm rfl) (fun hb1 h=>?_) (fun hb1 h=>?_))
 ·cases h
 ·refine wp_skip (Tn (Fs (Fr (Vm S rfl rfl fun a S=>Vm S rfl rfl fun a S=>Vb S Uv rfl rfl rfl fun a S=>Dl (Fc h (S.tm rfl) (fun hb2 h=>?_) (fun hb2 h=>?_))))))
  ·cases h
  ·refine wp_skip (Tn (Fs (Fr (Vm S rfl rfl fun a S=>Vq S Im rfl rfl rfl fun a S=>Dl (Fc h (S.tm rfl) (fun hb3 h=>?_) (fun hb3 h=>?_))))))
   ·refine Fs (Hd [] ([]) Tryz.mixed S rfl (by kernel_rfl) ?_);clear S;intro w1 hk1 hsel S
    refine Lw [0,1,2,3,4,5,6,7] hsel (by kernel_rfl) rfl ?_
    clear hsel
    refine Gm S rfl (Rm (S.tm rfl)) rfl fun a S=>Gm S rfl (Rm (S.tm rfl)) rfl ?_;clear S;intro a S
    obtain ⟨hc1,h⟩:=Ie h
    refine Gm S rfl (LA (S.tm rfl) (S.tm rfl) (Ud hc1)) rfl fun a S=>Gm S rfl (Rm (S.tm rfl)) rfl fun a S=>Gm S rfl (Rm (S.tm rfl)) rfl ?_;clear S;intro a S
    obtain ⟨hc2,h⟩:=Ie h
    refine Gm S rfl (rn_remk (S.tm rfl) (S.tm rfl) (Ud hc2)) rfl fun a S=>Gm S rfl (Ra (S.tm rfl)) rfl fun a S=>Gm S rfl (Ra (S.tm rfl)) rfl fun a S=>Hv ?_
    replace S:=S.k2 6 7 rfl
    refine Tn (wp_ret (Dt ?_))
    obtain rfl:=Option.some.inj h
    exact Lg S results97 rfl rfl rfl
   ·refine wp_skip (Tn (Fr (Vm S rfl rfl ?_)));clear S;intro a S
    obtain ⟨r1,hr1,h⟩:=Fa h
    refine Dw S (fun _=>Dp (vs:=[.int .u64 Bl]) ⟨(S.tm rfl),trivial⟩ call118) (AI _ Bl _ hr1) rfl ?_;clear S;intro v1 a w2 hv1 hk2 hn1 S
    subst hv1
    refine Vu S (Wo underlying3 underlying193) rfl rfl fun a S=>Va S rfl rfl fun a S=>Ld ?_
    replace S:=S.k4 0 1 2 8 rfl
    refine Tn (Fr (Vm S rfl rfl fun a S=>Vm S rfl rfl ?_));clear S;intro a S
    obtain ⟨hc3,h⟩:=Ie h
    refine lv S (OQ (S.tm rfl) (S.tm rfl) (of_decide_eq_true hc3)) rfl fun a S=>Va S rfl rfl fun a S=>Dz (Vm S rfl rfl fun a S=>lv S (Vd (S.tm rfl) rfl (by decide)) rfl fun a S=>Va S rfl rfl fun a S=>Dl ?_)
    refine Fr (Vm S rfl rfl fun a S=>Vq S EF rfl rfl rfl fun a S=>Va S rfl rfl fun a S=>Dz (Vm S rfl rfl fun a S=>Vm S rfl rfl ?_));clear S;intro a S
    obtain ⟨hc4,h⟩:=Ie h
    refine lv S (OQ (S.tm rfl) (S.tm rfl) (of_decide_eq_true hc4)) rfl fun a S=>Vm S rfl rfl fun a S=>Vm S rfl rfl fun a S=>Vu S (Zr rfl) rfl rfl ?_;clear S;intro a S
    obtain ⟨hc5,h⟩:=Ie h
    refine lv S (Vd (S.tm rfl) (S.tm rfl) (of_decide_eq_true hc5)) rfl fun a S=>Vb S rn_or_ rfl rfl rfl fun a S=>Va S rfl rfl fun a S=>Ld ?_
    replace S:=S.k6 1 2 8 9 10 11 rfl
    refine Tn (Fr (Vm S rfl rfl fun a S=>Vm S rfl rfl ?_));clear S;intro a S
    obtain ⟨hc6,h⟩:=Ie h
    refine lv S (OQ (S.tm rfl) (S.tm rfl) (of_decide_eq_true hc6)) rfl fun a S=>Va S rfl rfl fun a S=>Dz (Vm S rfl rfl fun a S=>lv S (Vd (S.tm rfl) rfl (by decide)) rfl fun a S=>Va S rfl rfl fun a S=>Dl ?_)
    refine Fr (Vm S rfl rfl fun a S=>Vq S EF rfl rfl rfl fun a S=>Va S rfl rfl fun a S=>Ld ?_)
    replace S:=S.k7 2 8 9 10 11 13 14 rfl
    refine Tn (Fr (Vm S rfl rfl fun a S=>Vm S rfl rfl ?_));clear S;intro a S
    obtain ⟨hc7,h⟩:=Ie h
    refine lv S (LA (S.tm rfl) (S.tm rfl) (Ud hc7)) rfl fun a S=>Va S rfl rfl fun a S=>Dl (Fs (Fg ?_))
    iterate 3 (refine Vm S rfl rfl ?_;clear S;intro a S)
    refine Vb S Pg rfl rfl rfl fun a S=>Vb S Zr rfl rfl rfl fun a S=>Va S rfl rfl fun a S=>Ld ?_
    replace S:=S.k9 2 8 9 10 11 13 14 15 16 rfl
    refine Tn (Fs ?_)
    obtain ⟨j1,hj1,h⟩:=Ep h
    refine Eg (fun a w'=>∃ x1 : Int,j1 x1 = some r ∧ Sx w [] nov [] [(2,.int .u64 (Fo .u64 Bl (IntKind.wrap .u64 r1))),(8,.int .u64 (IntKind.wrap .u64 r1)),(9,.int .u64 (Gr .u64 (Fo .u64 Bl (IntKind.wrap .u64 r1)) 32)),(10,.int .u64 (Nt .u64 (Fo .u64 Bl (IntKind.wrap .u64 r1)) 4294967295)),(11,.int .u64 (Sl .u64 (Fo .u64 Cj (IntKind.wrap .u64 r1)) (Gr .u64 Bm (IntKind.wrap .u64 (64 - (IntKind.wrap .u64 r1)))))),(13,.int .u64 (Gr .u64 (Fo .u64 Bm (IntKind.wrap .u64 r1)) 32)),(14,.int .u64 (Nt .u64 (Fo .u64 Bm (IntKind.wrap .u64 r1)) 4294967295)),(15,.int .u64 x1)] 135 a w') ?_ ?_
    ·refine wp_block (Gx (fun (m1 : Nat) a w'=>∃ x1 : Int,∃ x2 : Int,Px Bm r1 Bl j1 m1 x1 x2 = some r ∧ Sx w [] nov [] [(2,.int .u64 (Fo .u64 Bl (IntKind.wrap .u64 r1))),(8,.int .u64 (IntKind.wrap .u64 r1)),(9,.int .u64 (Gr .u64 (Fo .u64 Bl (IntKind.wrap .u64 r1)) 32)),(10,.int .u64 (Nt .u64 (Fo .u64 Bl (IntKind.wrap .u64 r1)) 4294967295)),(11,.int .u64 (Sl .u64 (Fo .u64 Cj (IntKind.wrap .u64 r1)) (Gr .u64 Bm (IntKind.wrap .u64 (64 - (IntKind.wrap .u64 r1)))))),(13,.int .u64 (Gr .u64 (Fo .u64 Bm (IntKind.wrap .u64 r1)) 32)),(14,.int .u64 (Nt .u64 (Fo .u64 Bm (IntKind.wrap .u64 r1)) 4294967295)),(15,.int .u64 x1),(16,.int .u64 x2)] 135 a w') id (((IntKind.wrap .u64 (Int.tdiv (Sl .u64 (Fo .u64 Cj (IntKind.wrap .u64 r1)) (Gr .u64 Bm (IntKind.wrap .u64 (64 - (IntKind.wrap .u64 r1))))) (Gr .u64 (Fo .u64 Bl (IntKind.wrap .u64 r1)) 32))) - 4294967296).toNat + 2) ⟨IntKind.wrap .u64 (Int.tdiv (Sl .u64 (Fo .u64 Cj (IntKind.wrap .u64 r1)) (Gr .u64 Bm (IntKind.wrap .u64 (64 - (IntKind.wrap .u64 r1))))) (Gr .u64 (Fo .u64 Bl (IntKind.wrap .u64 r1)) 32)),IntKind.wrap .u64 ((Sl .u64 (Fo .u64 Cj (IntKind.wrap .u64 r1)) (Gr .u64 Bm (IntKind.wrap .u64 (64 - (IntKind.wrap .u64 r1))))) - (IntKind.wrap .u64 ((IntKind.wrap .u64 (Int.tdiv (Sl .u64 (Fo .u64 Cj (IntKind.wrap .u64 r1)) (Gr .u64 Bm (IntKind.wrap .u64 (64 - (IntKind.wrap .u64 r1))))) (Gr .u64 (Fo .u64 Bl (IntKind.wrap .u64 r1)) 32))) * (Gr .u64 (Fo .u64 Bl (IntKind.wrap .u64 r1)) 32)))),h,S.nf [] rfl (subR rfl)⟩ ?_)
     clear S h;rintro m1 a w3 ⟨x1,x2,h,S⟩
     cases m1 with
     | zero=>rw [Px.eq_1] at h;cases h
     | succ m1 =>
      rw [Px.eq_2] at h
      refine Fs (Fr (Vm S rfl rfl fun a S=>Vq S Qe rfl rfl rfl fun a S=>Vm S rfl rfl fun a S=>Hn 9 (fun a w'=>Keep [] w3 w' ∧ Sx w [] nov [] [(2,.int .u64 (Fo .u64 Bl (IntKind.wrap .u64 r1))),(8,.int .u64 (IntKind.wrap .u64 r1)),(9,.int .u64 (Gr .u64 (Fo .u64 Bl (IntKind.wrap .u64 r1)) 32)),(10,.int .u64 (Nt .u64 (Fo .u64 Bl (IntKind.wrap .u64 r1)) 4294967295)),(11,.int .u64 (Sl .u64 (Fo .u64 Cj (IntKind.wrap .u64 r1)) (Gr .u64 Bm (IntKind.wrap .u64 (64 - (IntKind.wrap .u64 r1)))))),(13,.int .u64 (Gr .u64 (Fo .u64 Bm (IntKind.wrap .u64 r1)) 32)),(14,.int .u64 (Nt .u64 (Fo .u64 Bm (IntKind.wrap .u64 r1)) 4294967295)),(15,.int .u64 x1),(16,.int .u64 x2),(78,bV ((decide (4294967296 ≤ x1)) || (decide ((IntKind.wrap .u64 ((IntKind.wrap .u64 (4294967296 * x2)) + (Gr .u64 (Fo .u64 Bm (IntKind.wrap .u64 r1)) 32))) < (IntKind.wrap .u64 (x1 * (Nt .u64 (Fo .u64 Bl (IntKind.wrap .u64 r1)) 4294967295)))))))] 135 a w') ?_ ?_))
      ·rcases Bool.eq_false_or_eq_true (decide (4294967296 ≤ x1)) with hb4 | hb4
       ·iterate 8 (refine Gn S rfl rfl rfl (Kp hb4) rfl ?_ rfl;clear S;intro a S)
        exact lv S (Jq (decide ((IntKind.wrap .u64 ((IntKind.wrap .u64 (4294967296 * x2)) + (Gr .u64 (Fo .u64 Bm (IntKind.wrap .u64 r1)) 32))) < (IntKind.wrap .u64 (x1 * (Nt .u64 (Fo .u64 Bl (IntKind.wrap .u64 r1)) 4294967295))))) hb4 (S.tm rfl) rfl) rfl fun a S=>Dl (⟨Keep.refl _ _,S.nf [] rfl (subR rfl)⟩)
       ·refine Du S rfl rfl rfl hb4 (Vm S rfl rfl fun a S=>Du S rfl rfl rfl hb4 (Vm S rfl rfl fun a S=>Du S rfl rfl rfl hb4 (Vb S Pg rfl rfl rfl fun a S=>Du S rfl rfl rfl hb4 (Vm S rfl rfl fun a S=>Du S rfl rfl rfl hb4 (Vu S (Pg rfl) rfl rfl fun a S=>Du S rfl rfl rfl hb4 ?_)))))
        exact Vm S rfl rfl fun a S=>Du S rfl rfl rfl hb4 (Vb S Vc rfl rfl rfl fun a S=>Du S rfl rfl rfl hb4 (Vb S It rfl rfl rfl fun a S=>lv S (Jr hb4 (S.tm rfl) (S.tm rfl)) rfl fun a S=>Dl (⟨Keep.refl _ _,S.nf [] rfl (subR rfl)⟩)))
      clear S;rintro a w5 ⟨hk3,S⟩
      refine Dl (Fc h (S.tm rfl) (fun hb5 h=>?_) (fun hb5 h=>?_))
      ·refine wp_skip (Tn (wp_block (Fr (Vm S rfl rfl fun a S=>Vq S Zr rfl rfl rfl fun a S=>Va S rfl rfl fun a S=>Dl (Fs ?_)))))
       refine Fg (Vm S rfl rfl fun a S=>Vm S rfl rfl fun a S=>Vb S Vc rfl rfl rfl fun a S=>Va S rfl rfl fun a S=>Ld ?_)
       replace S:=S.k9 2 8 9 10 11 13 14 15 16 rfl
       refine Tn (Fr (Vm S rfl rfl fun a S=>Vq S Qe rfl rfl rfl fun a S=>Dl (Fc h (S.tm rfl) (fun hb6 h=>?_) (fun hb6 h=>?_))))
       ·exact wp_exit (QB rfl (Ed (Gp (Tn (⟨IntKind.wrap .u64 (x1 - 1),h,S.nf [] rfl (subR rfl)⟩)))))
       ·exact wp_skip (Ho (Tn (⟨m1,⟨IntKind.wrap .u64 (x1 - 1),IntKind.wrap .u64 (x2 + (Gr .u64 (Fo .u64 Bl (IntKind.wrap .u64 r1)) 32)),h,S.nf [] rfl ⟨rfl,rfl,rfl,rfl,rfl,rfl,rfl,rfl,rfl,trivial⟩⟩,Nat.lt_succ_self _⟩)))
      ·exact wp_exit (Ed (Ed (Gp (Tn (⟨x1,h,S.nf [] rfl (subR rfl)⟩)))))
    clear S h;rintro a w4 ⟨x1,h,S⟩;rw [hj1] at h;clear hj1 j1
    refine Tn (Fr (Vm S rfl rfl fun a S=>Vq S Pg rfl rfl rfl fun a S=>Vm S rfl rfl fun a S=>Vb S Vc rfl rfl rfl fun a S=>Vm S rfl rfl fun a S=>Vm S rfl rfl fun a S=>Vb S Pg rfl rfl rfl fun a S=>Vb S Zr rfl rfl rfl ?_));clear S;intro a S
    refine Va S rfl rfl fun a S=>Ld ?_
    replace S:=S.k7 2 8 9 10 14 15 17 rfl
    refine Tn (Fr (Vm S rfl rfl fun a S=>Vm S rfl rfl ?_));clear S;intro a S
    obtain ⟨hc8,h⟩:=Ie h
    refine lv S (LA (S.tm rfl) (S.tm rfl) (Ud hc8)) rfl fun a S=>Va S rfl rfl fun a S=>Dl (Fs (Fg ?_))
    iterate 3 (refine Vm S rfl rfl ?_;clear S;intro a S)
    refine Vb S Pg rfl rfl rfl fun a S=>Vb S Zr rfl rfl rfl fun a S=>Va S rfl rfl fun a S=>Ld ?_
    replace S:=S.k9 2 8 9 10 14 15 16 17 18 rfl
    refine Tn (Fs ?_)
    obtain ⟨j2,hj2,h⟩:=Ep h
    refine Eg (fun a w'=>∃ x4 : Int,j2 x4 = some r ∧ Sx w [] nov [] [(2,.int .u64 (Fo .u64 Bl (IntKind.wrap .u64 r1))),(8,.int .u64 (IntKind.wrap .u64 r1)),(14,.int .u64 (Nt .u64 (Fo .u64 Bm (IntKind.wrap .u64 r1)) 4294967295)),(15,.int .u64 x1),(17,.int .u64 (IntKind.wrap .u64 ((IntKind.wrap .u64 ((IntKind.wrap .u64 ((Sl .u64 (Fo .u64 Cj (IntKind.wrap .u64 r1)) (Gr .u64 Bm (IntKind.wrap .u64 (64 - (IntKind.wrap .u64 r1))))) * 4294967296)) + (Gr .u64 (Fo .u64 Bm (IntKind.wrap .u64 r1)) 32))) - (IntKind.wrap .u64 (x1 * (Fo .u64 Bl (IntKind.wrap .u64 r1))))))),(18,.int .u64 x4)] 135 a w') ?_ ?_
    ·refine wp_block (Gx (fun (m2 : Nat) a w'=>∃ x3 : Int,∃ x4 : Int,Py Bm r1 Bl j2 m2 x3 x4 = some r ∧ Sx w [] nov [] [(2,.int .u64 (Fo .u64 Bl (IntKind.wrap .u64 r1))),(8,.int .u64 (IntKind.wrap .u64 r1)),(9,.int .u64 (Gr .u64 (Fo .u64 Bl (IntKind.wrap .u64 r1)) 32)),(10,.int .u64 (Nt .u64 (Fo .u64 Bl (IntKind.wrap .u64 r1)) 4294967295)),(14,.int .u64 (Nt .u64 (Fo .u64 Bm (IntKind.wrap .u64 r1)) 4294967295)),(15,.int .u64 x1),(16,.int .u64 x3),(17,.int .u64 (IntKind.wrap .u64 ((IntKind.wrap .u64 ((IntKind.wrap .u64 ((Sl .u64 (Fo .u64 Cj (IntKind.wrap .u64 r1)) (Gr .u64 Bm (IntKind.wrap .u64 (64 - (IntKind.wrap .u64 r1))))) * 4294967296)) + (Gr .u64 (Fo .u64 Bm (IntKind.wrap .u64 r1)) 32))) - (IntKind.wrap .u64 (x1 * (Fo .u64 Bl (IntKind.wrap .u64 r1))))))),(18,.int .u64 x4)] 135 a w') id (((IntKind.wrap .u64 (Int.tdiv (IntKind.wrap .u64 ((IntKind.wrap .u64 ((IntKind.wrap .u64 ((Sl .u64 (Fo .u64 Cj (IntKind.wrap .u64 r1)) (Gr .u64 Bm (IntKind.wrap .u64 (64 - (IntKind.wrap .u64 r1))))) * 4294967296)) + (Gr .u64 (Fo .u64 Bm (IntKind.wrap .u64 r1)) 32))) - (IntKind.wrap .u64 (x1 * (Fo .u64 Bl (IntKind.wrap .u64 r1)))))) (Gr .u64 (Fo .u64 Bl (IntKind.wrap .u64 r1)) 32))) - 4294967296).toNat + 2) ⟨IntKind.wrap .u64 ((IntKind.wrap .u64 ((IntKind.wrap .u64 ((IntKind.wrap .u64 ((Sl .u64 (Fo .u64 Cj (IntKind.wrap .u64 r1)) (Gr .u64 Bm (IntKind.wrap .u64 (64 - (IntKind.wrap .u64 r1))))) * 4294967296)) + (Gr .u64 (Fo .u64 Bm (IntKind.wrap .u64 r1)) 32))) - (IntKind.wrap .u64 (x1 * (Fo .u64 Bl (IntKind.wrap .u64 r1)))))) - (IntKind.wrap .u64 ((IntKind.wrap .u64 (Int.tdiv (IntKind.wrap .u64 ((IntKind.wrap .u64 ((IntKind.wrap .u64 ((Sl .u64 (Fo .u64 Cj (IntKind.wrap .u64 r1)) (Gr .u64 Bm (IntKind.wrap .u64 (64 - (IntKind.wrap .u64 r1))))) * 4294967296)) + (Gr .u64 (Fo .u64 Bm (IntKind.wrap .u64 r1)) 32))) - (IntKind.wrap .u64 (x1 * (Fo .u64 Bl (IntKind.wrap .u64 r1)))))) (Gr .u64 (Fo .u64 Bl (IntKind.wrap .u64 r1)) 32))) * (Gr .u64 (Fo .u64 Bl (IntKind.wrap .u64 r1)) 32)))),IntKind.wrap .u64 (Int.tdiv (IntKind.wrap .u64 ((IntKind.wrap .u64 ((IntKind.wrap .u64 ((Sl .u64 (Fo .u64 Cj (IntKind.wrap .u64 r1)) (Gr .u64 Bm (IntKind.wrap .u64 (64 - (IntKind.wrap .u64 r1))))) * 4294967296)) + (Gr .u64 (Fo .u64 Bm (IntKind.wrap .u64 r1)) 32))) - (IntKind.wrap .u64 (x1 * (Fo .u64 Bl (IntKind.wrap .u64 r1)))))) (Gr .u64 (Fo .u64 Bl (IntKind.wrap .u64 r1)) 32)),h,S.nf [] rfl (subR rfl)⟩ ?_)
     clear S h;rintro m2 a w6 ⟨x3,x4,h,S⟩
     cases m2 with
     | zero=>rw [Py.eq_1] at h;cases h
     | succ m2 =>
      rw [Py.eq_2] at h
      refine Fs (Fr (Vm S rfl rfl fun a S=>Vq S Qe rfl rfl rfl fun a S=>Vm S rfl rfl fun a S=>Hn 9 (fun a w'=>Keep [] w6 w' ∧ Sx w [] nov [] [(2,.int .u64 (Fo .u64 Bl (IntKind.wrap .u64 r1))),(8,.int .u64 (IntKind.wrap .u64 r1)),(9,.int .u64 (Gr .u64 (Fo .u64 Bl (IntKind.wrap .u64 r1)) 32)),(10,.int .u64 (Nt .u64 (Fo .u64 Bl (IntKind.wrap .u64 r1)) 4294967295)),(14,.int .u64 (Nt .u64 (Fo .u64 Bm (IntKind.wrap .u64 r1)) 4294967295)),(15,.int .u64 x1),(16,.int .u64 x3),(17,.int .u64 (IntKind.wrap .u64 ((IntKind.wrap .u64 ((IntKind.wrap .u64 ((Sl .u64 (Fo .u64 Cj (IntKind.wrap .u64 r1)) (Gr .u64 Bm (IntKind.wrap .u64 (64 - (IntKind.wrap .u64 r1))))) * 4294967296)) + (Gr .u64 (Fo .u64 Bm (IntKind.wrap .u64 r1)) 32))) - (IntKind.wrap .u64 (x1 * (Fo .u64 Bl (IntKind.wrap .u64 r1))))))),(18,.int .u64 x4),(113,bV ((decide (4294967296 ≤ x4)) || (decide ((IntKind.wrap .u64 ((IntKind.wrap .u64 (4294967296 * x3)) + (Nt .u64 (Fo .u64 Bm (IntKind.wrap .u64 r1)) 4294967295))) < (IntKind.wrap .u64 (x4 * (Nt .u64 (Fo .u64 Bl (IntKind.wrap .u64 r1)) 4294967295)))))))] 135 a w') ?_ ?_))
      ·rcases Bool.eq_false_or_eq_true (decide (4294967296 ≤ x4)) with hb7 | hb7
       ·iterate 8 (refine Gn S rfl rfl rfl (Kp hb7) rfl ?_ rfl;clear S;intro a S)
        exact lv S (Jq (decide ((IntKind.wrap .u64 ((IntKind.wrap .u64 (4294967296 * x3)) + (Nt .u64 (Fo .u64 Bm (IntKind.wrap .u64 r1)) 4294967295))) < (IntKind.wrap .u64 (x4 * (Nt .u64 (Fo .u64 Bl (IntKind.wrap .u64 r1)) 4294967295))))) hb7 (S.tm rfl) rfl) rfl fun a S=>Dl (⟨Keep.refl _ _,S.nf [] rfl (subR rfl)⟩)
       ·refine Du S rfl rfl rfl hb7 (Vm S rfl rfl fun a S=>Du S rfl rfl rfl hb7 (Vm S rfl rfl fun a S=>Du S rfl rfl rfl hb7 (Vb S Pg rfl rfl rfl fun a S=>Du S rfl rfl rfl hb7 (Vm S rfl rfl fun a S=>Du S rfl rfl rfl hb7 (Vu S (Pg rfl) rfl rfl fun a S=>Du S rfl rfl rfl hb7 ?_)))))
        exact Vm S rfl rfl fun a S=>Du S rfl rfl rfl hb7 (Vb S Vc rfl rfl rfl fun a S=>Du S rfl rfl rfl hb7 (Vb S It rfl rfl rfl fun a S=>lv S (Jr hb7 (S.tm rfl) (S.tm rfl)) rfl fun a S=>Dl (⟨Keep.refl _ _,S.nf [] rfl (subR rfl)⟩)))
      clear S;rintro a w8 ⟨hk4,S⟩
      refine Dl (Fc h (S.tm rfl) (fun hb8 h=>?_) (fun hb8 h=>?_))
      ·refine wp_skip (Tn (wp_block (Fr (Vm S rfl rfl fun a S=>Vq S Zr rfl rfl rfl fun a S=>Va S rfl rfl fun a S=>Dl (Fs ?_)))))
       refine Fg (Vm S rfl rfl fun a S=>Vm S rfl rfl fun a S=>Vb S Vc rfl rfl rfl fun a S=>Va S rfl rfl fun a S=>Ld ?_)
       replace S:=S.k9 2 8 9 10 14 15 16 17 18 rfl
       refine Tn (Fr (Vm S rfl rfl fun a S=>Vq S Qe rfl rfl rfl fun a S=>Dl (Fc h (S.tm rfl) (fun hb9 h=>?_) (fun hb9 h=>?_))))
       ·exact wp_exit (QB rfl (Ed (Gp (Tn (⟨IntKind.wrap .u64 (x4 - 1),h,S.nf [] rfl (subR rfl)⟩)))))
       ·exact wp_skip (Ho (Tn (⟨m2,⟨IntKind.wrap .u64 (x3 + (Gr .u64 (Fo .u64 Bl (IntKind.wrap .u64 r1)) 32)),IntKind.wrap .u64 (x4 - 1),h,S.nf [] rfl ⟨rfl,rfl,rfl,rfl,rfl,rfl,rfl,rfl,rfl,trivial⟩⟩,Nat.lt_succ_self _⟩)))
      ·exact wp_exit (Ed (Ed (Gp (Tn (⟨x4,h,S.nf [] rfl (subR rfl)⟩)))))
    clear S h;rintro a w7 ⟨x4,h,S⟩;rw [hj2] at h;clear hj2 j2
    refine Tn (Fr (Vm S rfl rfl fun a S=>Vq S Pg rfl rfl rfl fun a S=>Vm S rfl rfl fun a S=>Vb S Vc rfl rfl rfl fun a S=>Vm S rfl rfl fun a S=>Vq S Pg rfl rfl rfl fun a S=>Vm S rfl rfl fun a S=>Vb S Vc rfl rfl rfl ?_));clear S;intro a S
    refine Vm S rfl rfl fun a S=>Vm S rfl rfl fun a S=>Vb S Pg rfl rfl rfl fun a S=>Vb S Zr rfl rfl rfl fun a S=>Vm S rfl rfl ?_;clear S;intro a S
    obtain ⟨hc9,h⟩:=Ie h
    refine lv S (Vd (S.tm rfl) (S.tm rfl) (of_decide_eq_true hc9)) rfl fun a S=>Va S rfl rfl fun a S=>Va S rfl rfl fun a S=>Ld ?_
    replace S:=S.k2 6 7 rfl
    refine Tn (wp_ret ?_)
    obtain rfl:=Option.some.inj h
    exact Lg S results97 rfl rfl rfl
theorem GA (w : World) (Bv : Int) (Bz : Int) (r : Int) (h : Yz Bv Bz = some r) :
    Calls prog 64 [iV Bv,iV Bz].toArray w (Ret w [] fun _ v _=>v = iV r):=by
 refine Fe func64 rfl ntmps64 rfl fun a S=>?_
 unfold Yz at h
 replace S:=S.k2 0 1 rfl
 refine Fr (Vk S rfl rfl fun a S=>Dz (Vm S rfl rfl fun a S=>Vu S (Wo underlying3 underlying180) rfl rfl fun a S=>Vm S rfl rfl fun a S=>Vu S (Wo underlying3 underlying180) rfl rfl ?_));clear S;intro a S
 refine Va S rfl rfl fun a S=>Va S rfl rfl fun a S=>Dz (Vm S rfl rfl fun a S=>Vm S rfl rfl fun a S=>Vb S Pg rfl rfl rfl fun a S=>Vm S rfl rfl fun a S=>Vb S Pg rfl rfl rfl ?_);clear S;intro a S
 refine Dw S (fun _=>Dp (vs:=[.int .u64 (IntKind.wrap .u64 ((IntKind.wrap .u64 ((IntKind.wrap .u64 Bv) * (IntKind.wrap .u64 Bv))) * (IntKind.wrap .u64 Bv))),.int .u64 1000]) ⟨(S.tm rfl),rfl,trivial⟩ call96) (JQ _ (IntKind.wrap .u64 ((IntKind.wrap .u64 ((IntKind.wrap .u64 Bv) * (IntKind.wrap .u64 Bv))) * (IntKind.wrap .u64 Bv))) 1000 _ rfl) rfl ?_;clear S;intro v1 a w1 hv1 hk1 hn1 S
 subst hv1
 refine Vm S rfl rfl fun a S=>Vq S Gb rfl rfl rfl fun a S=>Vq S Gb rfl rfl rfl fun a S=>Va S rfl rfl fun a S=>Va S rfl rfl fun a S=>Ld ?_
 replace S:=S.k3 6 7 8 rfl
 refine Tn (Fr (Vm S rfl rfl fun a S=>Vm S rfl rfl fun a S=>Vb S Pg rfl rfl rfl fun a S=>Vm S rfl rfl fun a S=>Vb S Pg rfl rfl rfl fun a S=>Va S rfl rfl fun a S=>Dl ?_))
 refine Fs (Fr (Vm S rfl rfl fun a S=>Vm S rfl rfl fun a S=>Vb S Qe rfl rfl rfl fun a S=>Dl (Fc h (S.tm rfl) (fun hb1 h=>?_) (fun hb1 h=>?_))))
 ·refine Fr (Vk S rfl rfl fun a S=>Dl (wp_ret (Dt ?_)))
  obtain rfl:=Option.some.inj h
  exact Ej S results64 rfl rfl
 ·refine wp_skip (Tn (Fs (Fg ?_)))
  iterate 3 (refine Vm S rfl rfl ?_;clear S;intro a S)
  obtain ⟨r1,hr1,h⟩:=Fa h
  refine Dw S (fun _=>Dp (vs:=[.int .u64 ((Sj (IntKind.wrap .u64 ((IntKind.wrap .u64 ((IntKind.wrap .u64 Bv) * (IntKind.wrap .u64 Bv))) * (IntKind.wrap .u64 Bv))) 1000).1),.int .u64 ((Sj (IntKind.wrap .u64 ((IntKind.wrap .u64 ((IntKind.wrap .u64 Bv) * (IntKind.wrap .u64 Bv))) * (IntKind.wrap .u64 Bv))) 1000).2),.int .u64 (IntKind.wrap .u64 ((IntKind.wrap .u64 ((IntKind.wrap .u64 Bz) * (IntKind.wrap .u64 Bz))) * (IntKind.wrap .u64 Bz)))]) ⟨(S.tm rfl),(S.tm rfl),(S.tm rfl),trivial⟩ call97) (JR _ ((Sj (IntKind.wrap .u64 ((IntKind.wrap .u64 ((IntKind.wrap .u64 Bv) * (IntKind.wrap .u64 Bv))) * (IntKind.wrap .u64 Bv))) 1000).1) ((Sj (IntKind.wrap .u64 ((IntKind.wrap .u64 ((IntKind.wrap .u64 Bv) * (IntKind.wrap .u64 Bv))) * (IntKind.wrap .u64 Bv))) 1000).2) (IntKind.wrap .u64 ((IntKind.wrap .u64 ((IntKind.wrap .u64 Bz) * (IntKind.wrap .u64 Bz))) * (IntKind.wrap .u64 Bz))) _ hr1) rfl ?_;clear S;intro v2 a w2 hv2 hk2 hn2 S
  subst hv2
  refine Vm S rfl rfl fun a S=>Vq S Gb rfl rfl rfl fun a S=>Vq S Gb rfl rfl rfl fun a S=>Va S rfl rfl fun a S=>Va S rfl rfl fun a S=>Ld ?_
  replace S:=S.k1 9 rfl
  refine Tn (Fr (Vm S rfl rfl fun a S=>Vq S rn_min2 rfl rfl rfl fun a S=>Vu S (Wo underlying180 underlying3) rfl rfl fun a S=>Va S rfl rfl fun a S=>Dl (wp_ret ?_)))
  obtain rfl:=Option.some.inj h
  exact Ej S results64 rfl rfl
theorem GB (w : World) (Ab : Value) (Ah : List Rp) (Af : Slc (view w []) 2 Ab (Ah.map Rp.enc)) (Al : ByteArray) (Bz : Int) (r : Int × Int) (h : Za Ah Al Bz = some r) :
    Calls prog 28 [Ab,sV Al,iV Bz].toArray w (Ret w [] fun _ v _=>v = .tuple #[iV r.1,iV r.2]):=by
 refine Fe func28 rfl ntmps28 rfl fun a S=>?_
 unfold Za at h
 replace S:=S.k3 0 1 2 rfl
 refine Fr (Vk S rfl rfl fun a S=>Vk S rfl rfl fun a S=>Dl (Fs (Fr (Vm S rfl rfl ?_))));clear S;intro a S
 obtain ⟨r1,hr1,h⟩:=Fa h
 refine Dw S (fun _=>Dp (vs:=[Ab]) ⟨(S.tm rfl),trivial⟩ call61) (CZ _ Ab Ah (Af.mono (S.le_arg Ec)) _ hr1) rfl ?_;clear S;intro v1 a w1 hv1 hk1 hn1 S
 subst hv1
 refine Va S rfl rfl fun a S=>Dz (Vm S rfl rfl fun a S=>Vq S Kw rfl rfl rfl fun a S=>Dl (Fc h (S.tm rfl) (fun hb1 h=>?_) (fun hb1 h=>?_)))
 ·refine Fr (Vm S rfl rfl fun a S=>Vk S rfl rfl fun a S=>Va S rfl rfl fun a S=>Dl (wp_ret (Dt ?_)))
  obtain rfl:=Option.some.inj h
  exact Lg S results28 rfl rfl rfl
 ·refine wp_skip (Tn (Fr (Vm S rfl rfl fun a S=>Vm S rfl rfl fun a S=>Dw S (fun _=>Dp (vs:=[Ab,sV Al]) ⟨(S.tm rfl),(S.tm rfl),trivial⟩ call62) (FZ _ Ab Ah (Af.mono (S.le_arg Ec)) Al _ rfl) rfl ?_)));clear S;intro v2 a w2 hv2 hk2 hn2 S
  subst hv2
  refine Va S rfl rfl fun a S=>Dl (Fs (Fr (Vm S rfl rfl fun a S=>Vq S Im rfl rfl rfl fun a S=>Ld ?_)))
  replace S:=S.k3 2 9 19 rfl
  refine Tn (Fc h (S.tm rfl) (fun hb2 h=>?_) (fun hb2 h=>?_))
  ·refine Fr (Vk S rfl rfl fun a S=>Vk S rfl rfl fun a S=>Dl (wp_ret (Dt ?_)))
   obtain rfl:=Option.some.inj h
   exact Lg S results28 rfl rfl rfl
  ·refine wp_skip (Tn (Fs (Fr (Vm S rfl rfl fun a S=>Dw S (fun _=>Dp (vs:=[iV Bz]) ⟨(S.tm rfl),trivial⟩ call63) (Wm _ Bz _ rfl) rfl ?_))));clear S;intro v3 a w3 hv3 hk3 hn3 S
   subst hv3
   refine Vu S Hj rfl rfl fun a S=>Dl (Fc h (S.tm rfl) (fun hb3 h=>?_) (fun hb3 h=>?_))
   ·refine Fr (Vk S rfl rfl fun a S=>Vk S rfl rfl fun a S=>Dl (wp_ret (Dt ?_)))
    obtain rfl:=Option.some.inj h
    exact Lg S results28 rfl rfl rfl
   ·refine wp_skip (Tn (Fr (Vm S rfl rfl fun a S=>Vm S rfl rfl ?_)));clear S;intro a S
    obtain ⟨r2,hr2,h⟩:=Fa h
    refine Dw S (fun _=>Dp (vs:=[iV (Sv Ah Al),iV Bz]) ⟨(S.tm rfl),(S.tm rfl),trivial⟩ call64) (GA _ (Sv Ah Al) Bz _ hr2) rfl ?_;clear S;intro v4 a w4 hv4 hk4 hn4 S
    subst hv4
    refine Va S rfl rfl fun a S=>Vk S rfl rfl fun a S=>Dl (wp_ret ?_)
    obtain rfl:=Option.some.inj h
    exact Lg S results28 rfl rfl rfl
set_option maxRecDepth 20000 in
theorem BV (w : World) (Ab : Value) (Ah : List Uk) (Ct : List R91) (Af : Slc (view w []) 5 Ab (Ct.map R91.enc)) (Cm : Lh (BH (view w [])) Ah Ct) (r : Int) (h : Vw Ah = some r) :
    Calls prog 65 [Ab].toArray w (Ret w [] fun _ v _=>v = iV r):=by
 refine Fe func65 rfl ntmps65 rfl fun a S=>?_
 unfold Vw at h
 replace S:=S.k1 0 rfl
 refine Fr (Vk S rfl rfl fun a S=>Dl (Fs (Fr (Vm S rfl rfl fun a S=>lv S (Fq KN (S.tm rfl) (Uj Af Cm)) rfl fun a S=>Vq S It rfl rfl rfl ?_))));clear S;intro a S
 refine Dl (Fc h (S.tm rfl) (fun hb1 h=>?_) (fun hb1 h=>?_))
 ·refine Fr (Vk S rfl rfl fun a S=>Dl (wp_ret (Dt ?_)))
  obtain rfl:=Option.some.inj h
  exact Ej S results65 rfl rfl
 ·refine wp_skip (Tn (Fs (Fr (Vm S rfl rfl fun a S=>lv S (Fq KN (S.tm rfl) (Uj Af Cm)) rfl fun a S=>lv S (Rm rfl) rfl fun a S=>Dl ?_))))
  replace S:=S.k4 0 10 11 12 rfl
  obtain ⟨j1,hj1,h⟩:=Ep h
  refine Eg (fun a w'=>j1 = some r ∧ Sx w [] nov [] [] 87 a w') ?_ ?_
  ·refine wp_block (Gx (fun (ys1 : List Uk) a w'=>∃ i1 : Nat,(∃ dn,Ah = dn ++ ys1 ∧ dn.length = i1) ∧ Ma Ah j1 ys1 i1 = some r ∧ Sx w [] nov [] [(0,Ab),(10,Ab),(11,iV (Ah.length : Int)),(12,iV (i1 : Int))] 87 a w') List.length Ah ⟨0,⟨[],rfl,rfl⟩,h,S.nf [] rfl (subR rfl)⟩ ?_)
   clear S h;rintro ys1 a w1 ⟨i1,⟨dn,hd1,hi1⟩,h,S⟩
   cases ys1 with
   | nil =>
    rw [Ma.eq_1] at h
    refine Fr (Vb S Et rfl rfl rfl fun a S=>Ld ?_)
    replace S:=S.k5 0 10 11 12 13 rfl
    exact Tn (Fs (wp_cond_false ((S.tm rfl).trans (congrArg Value.bool (Il hd1 hi1))) (wp_exit (Ed (Ed (Gp (Tn (⟨h,S.nf [] rfl trivial⟩))))))))
   | cons y1 ys1 =>
    rw [Ma.eq_2] at h
    refine Fr (Vb S Et rfl rfl rfl fun a S=>Ld ?_)
    replace S:=S.k5 0 10 11 12 13 rfl
    refine Tn (Fs (wp_cond_true ((S.tm rfl).trans (congrArg Value.bool (Ht hd1 hi1))) (wp_skip (Tn (Fs (wp_block (Fr (Vm S rfl rfl ?_))))))));clear S;intro a S
    obtain ⟨r1,hg1,hl1⟩:=Lh.at Cm (Io hd1 hi1)
    obtain ⟨u1,rfl,hs1⟩:=hl1
    obtain ⟨b1,o1,hm1,hr1⟩:=Ev (a:=a) (x:=.tmp 10) (y:=.tmp 12) (ty:=0) KN Af hg1 rfl (S.tm rfl) (S.tm rfl)
    refine lv S (hr1 _) rfl ?_;clear S;intro a S
    clear hr1
    refine lv S (Fp isAgg91 sizeOf91 (off:=o1) (o:=0) (part:=[sV y1.Key,sV y1.Race,u1.val,iV y1.Young,iV y1.Old]) rfl rfl (S.tm rfl) (hm1.at S.emb0)) rfl fun a S=>Hs S zeroValue91 (cs:=[sV An,sV An,.slice none 0 0,iV 0,iV 0]) rfl rfl ?_;clear S;intro a w3 b2 hz1 hk1 S
    refine Va S rfl rfl fun a S=>Ex S (S.tm rfl) (S.tm rfl) (i:=0) (off:=0) rfl sizeOf91 (vs:=[sV y1.Key,sV y1.Race,u1.val,iV y1.Young,iV y1.Old]) rfl rfl rfl (Qz rfl (Qz rfl (Qz (Kq.one (Fj hs1)) (Qz rfl (Qz rfl rfl))))) ?_;clear S;intro w4 hk2 S
    refine Dl (Fs (wp_block (Fr (Vf HT S rfl rfl fun a S=>Vl isAgg9 0 S rfl rfl rfl rfl ?_))));clear S;intro a S
    obtain ⟨r2,hr2,h⟩:=Fa h
    refine Dw S (fun _=>Dp (vs:=[sV y1.Key]) ⟨(S.tm rfl),trivial⟩ call95) (Ij _ y1.Key _ hr2) rfl ?_;clear S;intro v1 a w5 hv1 hk3 hn1 S
    subst hv1
    refine Vu S Hj rfl rfl fun a S=>Vm S rfl rfl ?_;clear S;intro a S
    obtain ⟨j2,hj2,h⟩:=Ep h
    refine Hn 5 (fun a w'=>∃ c1,j2 c1 = some r ∧ Keep [] w5 w' ∧ Sx w [] nov [.blk b2 [sV y1.Key,sV y1.Race,u1.val,iV y1.Young,iV y1.Old] 91] [(0,Ab),(3,iV (i1 : Int)),(4,.pointer (some ⟨b2,0,none⟩)),(10,Ab),(11,iV (Ah.length : Int)),(12,iV (i1 : Int)),(27,bV c1)] 87 a w') ?_ ?_
    ·rcases Bool.eq_false_or_eq_true (!r2) with hb2 | hb2
     ·replace h:=Qc h hb2
      iterate 4 (refine Gn S rfl rfl rfl (Kp hb2) rfl ?_ rfl;clear S;intro a S)
      exact Vq S (Jq true hb2) rfl rfl rfl fun a S=>Dl (⟨_,h,Keep.refl _ _,S.nf [true] rfl (subR rfl)⟩)
     ·replace h:=Qd h hb2
      refine Du S rfl rfl rfl hb2 (Vf QQ S rfl rfl fun a S=>Du S rfl rfl rfl hb2 (Vl isAgg9 0 S rfl rfl rfl rfl fun a S=>Du S rfl rfl rfl hb2 ?_))
      obtain ⟨r3,hr3,h⟩:=Fa h
      refine Dw S (fun _=>Dp (vs:=[sV y1.Race]) ⟨(S.tm rfl),trivial⟩ call95) (Ij _ y1.Race _ hr3) rfl ?_;clear S;intro v2 a w7 hv2 hk4 hn2 S
      subst hv2
      exact Du S rfl rfl rfl hb2 (Vu S Hj rfl rfl fun a S=>lv S (Jr hb2 (S.tm rfl) (S.tm rfl)) rfl fun a S=>Dl (⟨_,h,hk4,S.nf [true] rfl (subR rfl)⟩))
    clear S h;rintro a w6 ⟨c1,h,hk5,S⟩;rw [hj2] at h;clear hj2 j2
    refine Va S rfl rfl fun a S=>Dl (Fc h (S.tm rfl) (fun hb3 h=>?_) (fun hb3 h=>?_))
    ·refine Fr (Vk S rfl rfl fun a S=>Dl (wp_ret (Fl (Dt (Fl (Dt (Dt ?_)))))))
     refine Fl (Dt (Dt ?_))
     obtain rfl:=Option.some.inj h
     exact Ej S results65 rfl rfl
    ·refine Fs (Hd [] ([]) Tryz.mixed S rfl (by kernel_rfl) ?_);clear S;intro w8 hk6 hsel S
     refine Lw [0,1,2,3,4,5,6,7,8,9,10,11,12,13] hsel (by kernel_rfl) rfl ?_
     clear hsel
     refine Gm S rfl (Rm (S.tm rfl)) rfl fun a S=>Gm S rfl (It (S.tm rfl) rfl) rfl fun a S=>Gm S rfl (Rm (S.tm rfl)) rfl ?_;clear S;intro a S
     obtain ⟨j3,hj3,h⟩:=Ep h
     refine Ue 10 (fun a w'=>∃ c2,j3 c2 = some r ∧ Keep [] w8 w' ∧ Sx w [] nov [.blk b2 [sV y1.Key,sV y1.Race,u1.val,iV y1.Young,iV y1.Old] 91] [(0,Ab),(4,.pointer (some ⟨b2,0,none⟩)),(10,Ab),(11,iV (Ah.length : Int)),(12,iV (i1 : Int)),(41,bV c2)] 87 a w') ?_ ?_
     ·rcases Bool.eq_false_or_eq_true (decide (0 < (i1 : Int))) with hb4 | hb4
      ·replace h:=Qc h hb4
       refine Ee S rfl rfl rfl rfl hb4 (Fb S (Fy HT (S.tm rfl)) rfl fun a S=>Ee S rfl rfl rfl rfl hb4 (Fb S (La isAgg9 (S.tm rfl) (S.cell (i:=0) rfl rfl)) rfl fun a S=>Ee S rfl rfl rfl rfl hb4 (Fb S (Rm (S.tm rfl)) rfl fun a S=>Ee S rfl rfl rfl rfl hb4 (Fb S (Rm (S.tm rfl)) rfl fun a S=>Ee S rfl rfl rfl rfl hb4 (Fb S (Iu (S.tm rfl) rfl) rfl fun a S=>Ee S rfl rfl rfl rfl hb4 ?_)))))
       obtain ⟨hc1,h⟩:=Ie h
       obtain ⟨r4,hg2,hl2⟩:=NC Cm hc1
       obtain ⟨u2,rfl,hs2⟩:=hl2
       obtain ⟨b3,o2,hm2,hr4⟩:=Ev (a:=a) (x:=.tmp 34) (y:=.tmp 36) (ty:=0) KN Af hg2 (Dx hc1).2 (S.tm rfl) (S.tm rfl)
       refine Fb S (hr4 _) rfl ?_;clear S;intro a S
       clear hr4
       exact Ee S rfl rfl rfl rfl hb4 (Fb S (Fy HT (S.tm rfl)) rfl fun a S=>Ee S rfl rfl rfl rfl hb4 (Fb S (Hm isAgg9 (off:=o2) (o:=0) (S.tm rfl) (hm2.at S.emb0) rfl) rfl fun a S=>Ee S rfl rfl rfl rfl hb4 (Fb S (HH (S.tm rfl) (S.tm rfl)) rfl fun a S=>Gm S rfl (Hg hb4 (S.tm rfl) (S.tm rfl)) rfl fun a S=>Hv (⟨_,h,Keep.refl _ _,S.nf [true] rfl (subR rfl)⟩))))
      ·replace h:=Qd h hb4
       iterate 9 (refine Nk S rfl rfl rfl rfl (Jh hb4) rfl ?_ rfl;clear S;intro a S)
       exact Gm S rfl (Hh true hb4 (S.tm rfl) rfl) rfl fun a S=>Hv (⟨_,h,Keep.refl _ _,S.nf [true] rfl (subR rfl)⟩)
     clear S h;rintro a w9 ⟨c2,h,hk7,S⟩;rw [hj3] at h;clear hj3 j3
     refine Gm S rfl (Ra (S.tm rfl)) rfl fun a S=>Hv ?_
     replace S:=(S.nl [.blk b2 [sV y1.Key,sV y1.Race,u1.val,iV y1.Young,iV y1.Old] 91] [true] rfl).k6 0 4 10 11 12 28 rfl
     refine Tn (Fc h (S.tm rfl) (fun hb5 h=>?_) (fun hb5 h=>?_))
     ·refine Fr (Vk S rfl rfl fun a S=>Dl (wp_ret (Fl (Dt (Fl (Dt (Dt ?_)))))))
      refine Fl (Dt (Dt ?_))
      obtain rfl:=Option.some.inj h
      exact Ej S results65 rfl rfl
     ·refine Fr (Vf ES S rfl rfl fun a S=>Vl isAgg87 0 S rfl rfl rfl rfl fun a S=>lv S (Fq Zd (S.tm rfl) (Fj hs1)) rfl fun a S=>Vq S It rfl rfl rfl fun a S=>Va S rfl rfl fun a S=>Dl (Fc h (S.tm rfl) (fun hb6 h=>?_) (fun hb6 h=>?_)))
      ·refine Fr (Vk S rfl rfl fun a S=>Dl (wp_ret (Fl (Dt (Fl (Dt (Dt ?_)))))))
       refine Fl (Dt (Dt ?_))
       obtain rfl:=Option.some.inj h
       exact Ej S results65 rfl rfl
      ·refine wp_skip (Ho (Tn (Fs (Fr (Vf ES S rfl rfl fun a S=>Vl isAgg87 0 S rfl rfl rfl rfl fun a S=>lv S (Fq Zd (S.tm rfl) (Fj hs1)) rfl fun a S=>lv S (Rm rfl) rfl fun a S=>Ld ?_)))))
       replace S:=S.k8 0 4 10 11 12 48 49 50 rfl
       refine Tn ?_
       obtain ⟨j4,hj4,h⟩:=Ep h
       refine Eg (fun a w'=>j4 = some r ∧ Sx w [] nov [.blk b2 [sV y1.Key,sV y1.Race,u1.val,iV y1.Young,iV y1.Old] 91] [(0,Ab),(4,.pointer (some ⟨b2,0,none⟩)),(10,Ab),(11,iV (Ah.length : Int)),(12,iV (i1 : Int))] 87 a w') ?_ ?_
       ·refine wp_block (Gx (fun (ys2 : List ByteArray) a w'=>∃ i2 : Nat,(∃ dn,y1.Clubs = dn ++ ys2 ∧ dn.length = i2) ∧ Lz y1 j4 ys2 i2 = some r ∧ Sx w [] nov [.blk b2 [sV y1.Key,sV y1.Race,u1.val,iV y1.Young,iV y1.Old] 91] [(0,Ab),(4,.pointer (some ⟨b2,0,none⟩)),(10,Ab),(11,iV (Ah.length : Int)),(12,iV (i1 : Int)),(48,u1.val),(49,iV (y1.Clubs.length : Int)),(50,iV (i2 : Int))] 87 a w') List.length y1.Clubs ⟨0,⟨[],rfl,rfl⟩,h,S.nf [true] rfl (subR rfl)⟩ ?_)
        clear S h;rintro ys2 a w10 ⟨i2,⟨dn,hd2,hi2⟩,h,S⟩
        cases ys2 with
        | nil =>
         rw [Lz.eq_1] at h
         refine Fr (Vb S Et rfl rfl rfl fun a S=>Ld ?_)
         replace S:=S.k9 0 4 10 11 12 48 49 50 51 rfl
         exact Tn (Fs (wp_cond_false ((S.tm rfl).trans (congrArg Value.bool (Il hd2 hi2))) (wp_exit (Ed (Ed (Gp (Tn (⟨h,S.nf [true] rfl (subR rfl)⟩))))))))
        | cons y2 ys2 =>
         rw [Lz.eq_2] at h
         refine Fr (Vb S Et rfl rfl rfl fun a S=>Ld ?_)
         replace S:=S.k9 0 4 10 11 12 48 49 50 51 rfl
         refine Tn (Fs (wp_cond_true ((S.tm rfl).trans (congrArg Value.bool (Ht hd2 hi2))) (wp_skip (Tn (Fs (wp_block (Fr (Vm S rfl rfl ?_))))))));clear S;intro a S
         obtain ⟨b4,o3,hm3,hr5⟩:=Ev (a:=a) (x:=.tmp 48) (y:=.tmp 50) (ty:=0) Zd hs1 (Io hd2 hi2) rfl (S.tm rfl) (S.tm rfl)
         refine lv S (hr5 _) rfl ?_;clear S;intro a S
         clear hr5
         refine lv S (Hm isAgg9 (off:=o3) (o:=0) (S.tm rfl) (hm3.at S.emb0) rfl) rfl fun a S=>Va S rfl rfl fun a S=>Va S rfl rfl fun a S=>Dl (Fs (Fr (Vm S rfl rfl ?_)));clear S;intro a S
         obtain ⟨r5,hr6,h⟩:=Fa h
         refine Dw S (fun _=>Dp (vs:=[sV y2]) ⟨(S.tm rfl),trivial⟩ call95) (Ij _ y2 _ hr6) rfl ?_;clear S;intro v3 a w12 hv3 hk8 hn3 S
         subst hv3
         refine Vu S Hj rfl rfl fun a S=>Ld ?_
         replace S:=S.k11 0 4 5 6 10 11 12 48 49 50 57 rfl
         refine Tn (Fc h (S.tm rfl) (fun hb7 h=>?_) (fun hb7 h=>?_))
         ·refine Fr (Vk S rfl rfl fun a S=>Dl (wp_ret (Dt (Fl (Dt (Dt (Fl ?_)))))))
          refine Dt (Dt (Fl (Dt (Dt (Fl (Dt (Dt ?_)))))))
          obtain rfl:=Option.some.inj h
          exact Ej S results65 rfl rfl
         ·refine wp_skip (Tn (Fr (Vm S rfl rfl fun a S=>Vq S It rfl rfl rfl fun a S=>Vm S rfl rfl ?_)));clear S;intro a S
          obtain ⟨j5,hj5,h⟩:=Ep h
          refine Hn 9 (fun a w'=>∃ c3,j5 c3 = some r ∧ Keep [] w12 w' ∧ Sx w [] nov [.blk b2 [sV y1.Key,sV y1.Race,u1.val,iV y1.Young,iV y1.Old] 91] [(0,Ab),(4,.pointer (some ⟨b2,0,none⟩)),(10,Ab),(11,iV (Ah.length : Int)),(12,iV (i1 : Int)),(48,u1.val),(49,iV (y1.Clubs.length : Int)),(50,iV (i2 : Int)),(69,bV c3)] 87 a w') ?_ ?_
          ·rcases Bool.eq_false_or_eq_true (decide (0 < (i2 : Int))) with hb8 | hb8
           ·replace h:=Qc h hb8
            refine Du S rfl rfl rfl hb8 (Vm S rfl rfl fun a S=>Du S rfl rfl rfl hb8 (Vf ES S rfl rfl fun a S=>Du S rfl rfl rfl hb8 (Vl isAgg87 0 S rfl rfl rfl rfl fun a S=>Du S rfl rfl rfl hb8 (Vm S rfl rfl fun a S=>Du S rfl rfl rfl hb8 (Vq S Iu rfl rfl rfl fun a S=>Du S rfl rfl rfl hb8 ?_)))))
            obtain ⟨hc2,h⟩:=Ie h
            obtain ⟨b5,o4,hm4,hr7⟩:=Ev (a:=a) (x:=.tmp 63) (y:=.tmp 65) (ty:=0) Zd hs1 (Dx hc2).1 (Dx hc2).2 (S.tm rfl) (S.tm rfl)
            refine lv S (hr7 _) rfl ?_;clear S;intro a S
            clear hr7
            exact Du S rfl rfl rfl hb8 (lv S (Hm isAgg9 (off:=o4) (o:=0) (S.tm rfl) (hm4.at S.emb0) rfl) rfl fun a S=>Du S rfl rfl rfl hb8 (Vb S HH rfl rfl rfl fun a S=>lv S (Hg hb8 (S.tm rfl) (S.tm rfl)) rfl fun a S=>Dl (⟨_,h,Keep.refl _ _,S.nf [true] rfl (subR rfl)⟩)))
           ·replace h:=Qd h hb8
            iterate 8 (refine Gn S rfl rfl rfl (Jh hb8) rfl ?_ rfl;clear S;intro a S)
            exact Vq S (Hh true hb8) rfl rfl rfl fun a S=>Dl (⟨_,h,Keep.refl _ _,S.nf [true] rfl (subR rfl)⟩)
          clear S h;rintro a w13 ⟨c3,h,hk9,S⟩;rw [hj5] at h;clear hj5 j5
          refine Dl (Fc h (S.tm rfl) (fun hb9 h=>?_) (fun hb9 h=>?_))
          ·refine Fr (Vk S rfl rfl fun a S=>Dl (wp_ret (Fl (Dt (Dt (Fl (Dt ?_)))))))
           refine Dt (Fl (Dt (Dt (Fl (Dt (Dt ?_))))))
           obtain rfl:=Option.some.inj h
           exact Ej S results65 rfl rfl
          ·exact wp_skip (Ho (Tn (Fg (Vq S Gc rfl rfl rfl fun a S=>Vm S rfl rfl fun a S=>Dl (⟨ys2,⟨i2 + 1,⟨_,(hd2).trans (List.append_cons _ _ _),by simp [hi2]⟩,h,S.nf [true] rfl ⟨rfl,rfl,rfl,rfl,rfl,rfl,rfl,(congrArg (fun z=>some (Value.int .i64 z)) (Hu hd2 hi2 (Iz hs1))),trivial⟩⟩,Nat.lt_succ_self _⟩)))))
       clear S h;rintro a w11 ⟨h,S⟩;rw [hj4] at h;clear hj4 j4
       refine Tn (Fr (Vf LW S rfl rfl fun a S=>Vl isAgg3 0 S rfl rfl rfl rfl fun a S=>Vq S Et rfl rfl rfl fun a S=>Vm S rfl rfl fun a S=>Hn 6 (fun a w'=>Keep [] w11 w' ∧ Sx w [] nov [.blk b2 [sV y1.Key,sV y1.Race,u1.val,iV y1.Young,iV y1.Old] 91] [(0,Ab),(4,.pointer (some ⟨b2,0,none⟩)),(10,Ab),(11,iV (Ah.length : Int)),(12,iV (i1 : Int)),(80,bV ((decide (y1.Young < 0)) || (decide (y1.Old < y1.Young))))] 87 a w') ?_ ?_))
       ·rcases Bool.eq_false_or_eq_true (decide (y1.Young < 0)) with hb10 | hb10
        ·iterate 5 (refine Gn S rfl rfl rfl (Kp hb10) rfl ?_ rfl;clear S;intro a S)
         exact lv S (Jq (decide (y1.Old < y1.Young)) hb10 (S.tm rfl) rfl) rfl fun a S=>Dl (⟨Keep.refl _ _,S.nf [true] rfl (subR rfl)⟩)
        ·refine Du S rfl rfl rfl hb10 (Vf LW S rfl rfl fun a S=>Du S rfl rfl rfl hb10 (Vl isAgg3 0 S rfl rfl rfl rfl fun a S=>Du S rfl rfl rfl hb10 (Vf LX S rfl rfl fun a S=>Du S rfl rfl rfl hb10 (Vl isAgg3 0 S rfl rfl rfl rfl fun a S=>Du S rfl rfl rfl hb10 (Vb S It rfl rfl rfl fun a S=>lv S (Jr hb10 (S.tm rfl) (S.tm rfl)) rfl ?_)))));clear S;intro a S
         exact Dl (⟨Keep.refl _ _,S.nf [true] rfl (subR rfl)⟩)
       clear S;rintro a w14 ⟨hk10,S⟩
       refine Vm S rfl rfl fun a S=>Hn 4 (fun a w'=>Keep [] w14 w' ∧ Sx w [] nov [.blk b2 [sV y1.Key,sV y1.Race,u1.val,iV y1.Young,iV y1.Old] 91] [(0,Ab),(10,Ab),(11,iV (Ah.length : Int)),(12,iV (i1 : Int)),(85,bV (((decide (y1.Young < 0)) || (decide (y1.Old < y1.Young))) || (decide (150 < y1.Old))))] 87 a w') ?_ ?_
       ·rcases Bool.eq_false_or_eq_true ((decide (y1.Young < 0)) || (decide (y1.Old < y1.Young))) with hb11 | hb11
        ·iterate 3 (refine Gn S rfl rfl rfl (Kp hb11) rfl ?_ rfl;clear S;intro a S)
         exact lv S (Jq (decide (150 < y1.Old)) hb11 (S.tm rfl) rfl) rfl fun a S=>Dl (⟨Keep.refl _ _,S.nf [true] rfl (subR rfl)⟩)
        ·exact Du S rfl rfl rfl hb11 (Vf LX S rfl rfl fun a S=>Du S rfl rfl rfl hb11 (Vl isAgg3 0 S rfl rfl rfl rfl fun a S=>Du S rfl rfl rfl hb11 (Vq S It rfl rfl rfl fun a S=>lv S (Jr hb11 (S.tm rfl) (S.tm rfl)) rfl fun a S=>Dl (⟨Keep.refl _ _,S.nf [true] rfl (subR rfl)⟩))))
       clear S;rintro a w15 ⟨hk11,S⟩
       refine Dl (Fc h (S.tm rfl) (fun hb12 h=>?_) (fun hb12 h=>?_))
       ·refine Fr (Vk S rfl rfl fun a S=>Dl (wp_ret (Fl (Dt (Dt (Fl (Dt ?_)))))))
        refine Dt ?_
        obtain rfl:=Option.some.inj h
        exact Ej S results65 rfl rfl
       ·exact wp_skip (Ho (Tn (Fg (Vq S Gc rfl rfl rfl fun a S=>Vm S rfl rfl fun a S=>Dl (⟨ys1,⟨i1 + 1,⟨_,(hd1).trans (List.append_cons _ _ _),by simp [hi1]⟩,h,S.nf [false] rfl ⟨rfl,rfl,rfl,(congrArg (fun z=>some (Value.int .i64 z)) (Hu hd1 hi1 (Wy Af Cm))),trivial⟩⟩,Nat.lt_succ_self _⟩)))))
  clear S h;rintro a w2 ⟨h,S⟩;rw [hj1] at h;clear hj1 j1
  refine Tn (Fr (Vk S rfl rfl fun a S=>Dl (wp_ret ?_)))
  obtain rfl:=Option.some.inj h
  exact Ej S results65 rfl rfl
theorem DA (w : World) (Ac : Kk) (r : Int) (h : Wk Ac = some r) :
    Calls prog 98 [.agg (Kk.enc Ac).toArray].toArray w (Ret w [] fun _ v _=>v = iV r):=by
 refine Fe func98 rfl ntmps98 rfl fun a S=>?_
 unfold Wk at h
 replace S:=S.k1 0 rfl
 refine Fr (Mn S (S.tm rfl) (cs:=(Kk.enc Ac)) rfl rfl ?_);clear S;intro a w1 b1 hz1 hk1 S
 refine Vk S rfl rfl fun a S=>Dl (Fs ?_)
 obtain ⟨j1,hj1,h⟩:=Ep h
 refine Eg (fun a w'=>j1 = some r ∧ Sx w [] nov [] [] 64 a w') ?_ ?_
 ·refine wp_block (Fr (Vf QR S rfl rfl fun a S=>Vl isAgg3 0 S rfl rfl rfl rfl fun a S=>Dw S (fun _=>Dp (vs:=[iV Ac.At]) ⟨(S.tm rfl),trivial⟩ call44) (Td _ Ac.At _ rfl) rfl ?_));clear S;intro v1 a w3 hv1 hk2 hn1 S
  subst hv1
  refine Vu S Hj rfl rfl fun a S=>Va S rfl rfl fun a S=>Dl (Fc h (S.tm rfl) (fun hb1 h=>?_) (fun hb1 h=>?_))
  ·refine Fr (Vk S rfl rfl fun a S=>Dl (wp_ret (Fl (Dt (Dt ?_)))))
   obtain rfl:=Option.some.inj h
   exact Ej S results98 rfl rfl
  ·refine Fr (Vf HU S rfl rfl fun a S=>Vl isAgg3 0 S rfl rfl rfl rfl fun a S=>Dw S (fun _=>Dp (vs:=[iV Ac.Kind,iV 1,iV 3]) ⟨(S.tm rfl),rfl,rfl,trivial⟩ call55) (Fm _ Ac.Kind 1 3 _ rfl) rfl ?_);clear S;intro v2 a w4 hv2 hk3 hn2 S
   subst hv2
   refine Vu S Hj rfl rfl fun a S=>Va S rfl rfl fun a S=>Dl (Fc h (S.tm rfl) (fun hb2 h=>?_) (fun hb2 h=>?_))
   ·refine Fr (Vk S rfl rfl fun a S=>Dl (wp_ret (Fl (Dt (Dt ?_)))))
    obtain rfl:=Option.some.inj h
    exact Ej S results98 rfl rfl
   ·refine Fr (Vf QS S rfl rfl fun a S=>Vl isAgg9 0 S rfl rfl rfl rfl ?_);clear S;intro a S
    obtain ⟨r1,hr1,h⟩:=Fa h
    refine Dw S (fun _=>Dp (vs:=[sV Ac.Id]) ⟨(S.tm rfl),trivial⟩ call95) (Ij _ Ac.Id _ hr1) rfl ?_;clear S;intro v3 a w5 hv3 hk4 hn3 S
    subst hv3
    refine Vu S Hj rfl rfl fun a S=>Va S rfl rfl fun a S=>Ld ?_
    replace S:=(S.nl [.blk b1 (Kk.enc Ac) 94] [true] rfl).k2 1 13 rfl
    refine Tn (Fc h (S.tm rfl) (fun hb3 h=>?_) (fun hb3 h=>?_))
    ·refine Fr (Vk S rfl rfl fun a S=>Dl (wp_ret (Fl (Dt (Dt ?_)))))
     obtain rfl:=Option.some.inj h
     exact Ej S results98 rfl rfl
    ·refine Fr (Vf HU S rfl rfl fun a S=>Vl isAgg3 0 S rfl rfl rfl rfl fun a S=>Vq S Kw rfl rfl rfl fun a S=>Va S rfl rfl fun a S=>Dl ?_)
     obtain ⟨j2,hj2,h⟩:=Ep h
     refine Eg (fun a w'=>j2 = some r ∧ Sx w [] nov [] [] 64 a w') ?_ ?_
     ·refine Fc h (S.tm rfl) (fun hb4 h=>?_) (fun hb4 h=>?_)
      ·refine Fr (lv S (Fp isAgg94 sizeOf94 (off:=0) (o:=0) (part:=(Kk.enc Ac)) rfl rfl (S.tm rfl) (S.cellsAt (i:=0) rfl)) rfl fun a S=>Vf QR S rfl rfl fun a S=>Vl isAgg3 0 S rfl rfl rfl rfl fun a S=>Vf HU S rfl rfl fun a S=>Vl isAgg3 0 S rfl rfl rfl rfl fun a S=>Vf QS S rfl rfl fun a S=>Vl isAgg9 0 S rfl rfl rfl rfl fun a S=>lv S (Mr bt_94 (pv:=[(0,iV Ac.At),(1,iV Ac.Kind),(2,sV Ac.Id)]) ⟨rfl,(S.tm rfl),rfl,(S.tm rfl),rfl,(S.tm rfl),trivial⟩ (cs:=[iV Ac.At,iV Ac.Kind,sV Ac.Id,sV An,sV An,sV An,iV 0,iV 0]) (by kernel_rfl)) rfl fun a S=>lv S (SU (m:=Ac) (n:=(Kk.mk Ac.At Ac.Kind Ac.Id An An An 0 0)) (S.tm rfl) (S.tm rfl)) rfl ?_);clear S;intro a S
       refine Ld ?_
       replace S:=S.n0.k1 30 rfl
       refine Tn (Fc h (S.tm rfl) (fun hb5 h=>?_) (fun hb5 h=>?_))
       ·refine Fr (Vk S rfl rfl fun a S=>Dl (wp_ret (Dt (Fl (Dt (Dt ?_))))))
        obtain rfl:=Option.some.inj h
        exact Ej S results98 rfl rfl
       ·exact wp_skip (Tn (⟨h,S.nf [] rfl trivial⟩))
      ·refine Fr (Vf fa_94_3 S rfl rfl fun a S=>Vl isAgg9 0 S rfl rfl rfl rfl ?_);clear S;intro a S
       obtain ⟨r2,hr2,h⟩:=Fa h
       refine Dw S (fun _=>Dp (vs:=[sV Ac.Who]) ⟨(S.tm rfl),trivial⟩ call95) (Ij _ Ac.Who _ hr2) rfl ?_;clear S;intro v4 a w7 hv4 hk5 hn4 S
       subst hv4
       refine Vu S Hj rfl rfl fun a S=>Vm S rfl rfl ?_;clear S;intro a S
       obtain ⟨j3,hj3,h⟩:=Ep h
       refine Hn 5 (fun a w'=>∃ c1,j3 c1 = some r ∧ Keep [] w7 w' ∧ Sx w [] nov [.blk b1 (Kk.enc Ac) 94] [(1,.pointer (some ⟨b1,0,none⟩)),(41,bV c1)] 64 a w') ?_ ?_
       ·rcases Bool.eq_false_or_eq_true (!r2) with hb6 | hb6
        ·replace h:=Qc h hb6
         iterate 4 (refine Gn S rfl rfl rfl (Kp hb6) rfl ?_ rfl;clear S;intro a S)
         exact Vq S (Jq true hb6) rfl rfl rfl fun a S=>Dl (⟨_,h,Keep.refl _ _,S.nf [true] rfl (subR rfl)⟩)
        ·replace h:=Qd h hb6
         refine Du S rfl rfl rfl hb6 (Vf QT S rfl rfl fun a S=>Du S rfl rfl rfl hb6 (Vl isAgg9 0 S rfl rfl rfl rfl fun a S=>Du S rfl rfl rfl hb6 ?_))
         obtain ⟨r3,hr3,h⟩:=Fa h
         refine Dw S (fun _=>Dp (vs:=[sV Ac.Race]) ⟨(S.tm rfl),trivial⟩ call95) (Ij _ Ac.Race _ hr3) rfl ?_;clear S;intro v5 a w9 hv5 hk6 hn5 S
         subst hv5
         exact Du S rfl rfl rfl hb6 (Vu S Hj rfl rfl fun a S=>lv S (Jr hb6 (S.tm rfl) (S.tm rfl)) rfl fun a S=>Dl (⟨_,h,hk6,S.nf [true] rfl (subR rfl)⟩))
       clear S h;rintro a w8 ⟨c1,h,hk7,S⟩;rw [hj3] at h;clear hj3 j3
       refine Vm S rfl rfl ?_;clear S;intro a S
       obtain ⟨j4,hj4,h⟩:=Ep h
       refine Hn 10 (fun a w'=>∃ c2,j4 c2 = some r ∧ Keep [] w8 w' ∧ Sx w [] nov [.blk b1 (Kk.enc Ac) 94] [(1,.pointer (some ⟨b1,0,none⟩)),(52,bV c2)] 64 a w') ?_ ?_
       ·rcases Bool.eq_false_or_eq_true c1 with hb7 | hb7
        ·replace h:=Qc h hb7
         iterate 4 (refine Gn S rfl rfl rfl (Kp hb7) rfl ?_ rfl;clear S;intro a S)
         iterate 4 (refine Xl S rfl rfl rfl rfl ?_;clear S;intro a S)
         exact Gn S rfl rfl rfl (Kp hb7) rfl (fun a S=>Vq S (Jq true hb7) rfl rfl rfl fun a S=>Dl (⟨_,h,Keep.refl _ _,S.nf [true] rfl (subR rfl)⟩)) rfl
        ·replace h:=Qd h hb7
         refine Du S rfl rfl rfl hb7 (Vf LY S rfl rfl fun a S=>Du S rfl rfl rfl hb7 (Vl isAgg9 0 S rfl rfl rfl rfl fun a S=>Du S rfl rfl rfl hb7 (Vq S CE rfl rfl rfl fun a S=>Du S rfl rfl rfl hb7 (Vm S rfl rfl ?_))));clear S;intro a S
         obtain ⟨j5,hj5,h⟩:=Ep h
         refine Hn 5 (fun a w'=>∃ c3,j5 c3 = some r ∧ Keep [] w8 w' ∧ Sx w [] nov [.blk b1 (Kk.enc Ac) 94] [(1,.pointer (some ⟨b1,0,none⟩)),(42,bV c1),(51,bV c3)] 64 a w') ?_ ?_
         ·rcases Bool.eq_false_or_eq_true (!decide (Ac.Club = An)) with hb8 | hb8
          ·replace h:=Qc h hb8
           refine Du S rfl rfl rfl hb8 (Vf LY S rfl rfl fun a S=>Du S rfl rfl rfl hb8 (Vl isAgg9 0 S rfl rfl rfl rfl fun a S=>Du S rfl rfl rfl hb8 ?_))
           obtain ⟨r4,hr4,h⟩:=Fa h
           refine Dw S (fun _=>Dp (vs:=[sV Ac.Club]) ⟨(S.tm rfl),trivial⟩ call95) (Ij _ Ac.Club _ hr4) rfl ?_;clear S;intro v6 a w12 hv6 hk8 hn6 S
           subst hv6
           exact Du S rfl rfl rfl hb8 (Vu S Hj rfl rfl fun a S=>Du S rfl rfl rfl hb7 (lv S (Hg hb8 (S.tm rfl) (S.tm rfl)) rfl fun a S=>Dl (⟨_,h,hk8,S.nf [true] rfl (subR rfl)⟩)))
          ·replace h:=Qd h hb8
           iterate 4 (refine Gn S rfl rfl rfl (Jh hb8) rfl ?_ rfl;clear S;intro a S)
           exact Du S rfl rfl rfl hb7 (Vq S (Hh true hb8) rfl rfl rfl fun a S=>Dl (⟨_,h,Keep.refl _ _,S.nf [true] rfl (subR rfl)⟩))
         clear S h;rintro a w11 ⟨c3,h,hk9,S⟩;rw [hj5] at h;clear hj5 j5
         exact lv S (Jr hb7 (S.tm rfl) (S.tm rfl)) rfl fun a S=>Dl (⟨_,h,hk9,S.nf [true] rfl (subR rfl)⟩)
       clear S h;rintro a w10 ⟨c2,h,hk10,S⟩;rw [hj4] at h;clear hj4 j4
       refine Va S rfl rfl fun a S=>Dl (Fc h (S.tm rfl) (fun hb9 h=>?_) (fun hb9 h=>?_))
       ·refine Fr (Vk S rfl rfl fun a S=>Dl (wp_ret (Dt (Fl (Dt (Dt ?_))))))
        obtain rfl:=Option.some.inj h
        exact Ej S results98 rfl rfl
       ·refine Fr (Vf QU S rfl rfl fun a S=>Vl isAgg3 0 S rfl rfl rfl rfl fun a S=>Dw S (fun _=>Dp (vs:=[iV Ac.Age,iV 0,iV 150]) ⟨(S.tm rfl),rfl,rfl,trivial⟩ call55) (Fm _ Ac.Age 0 150 _ rfl) rfl ?_);clear S;intro v7 a w13 hv7 hk11 hn7 S
        subst hv7
        refine Vu S Hj rfl rfl fun a S=>Vm S rfl rfl fun a S=>Hn 5 (fun a w'=>Keep [] w13 w' ∧ Sx w [] nov [.blk b1 (Kk.enc Ac) 94] [(63,bV ((!(Dv Ac.Age 0 150)) || (!(Rj Ac.Time))))] 64 a w') ?_ ?_
        ·rcases Bool.eq_false_or_eq_true (!(Dv Ac.Age 0 150)) with hb10 | hb10
         ·iterate 4 (refine Gn S rfl rfl rfl (Kp hb10) rfl ?_ rfl;clear S;intro a S)
          exact lv S (Jq (!(Rj Ac.Time)) hb10 (S.tm rfl) rfl) rfl fun a S=>Dl (⟨Keep.refl _ _,S.nf [true] rfl ⟨rfl,trivial⟩⟩)
         ·refine Du S rfl rfl rfl hb10 (Vf fa_94_7 S rfl rfl fun a S=>Du S rfl rfl rfl hb10 (Vl isAgg3 0 S rfl rfl rfl rfl fun a S=>Du S rfl rfl rfl hb10 (Dw S (fun _=>Dp (vs:=[iV Ac.Time]) ⟨(S.tm rfl),trivial⟩ call63) (Wm _ Ac.Time _ rfl) rfl ?_)));clear S;intro v8 a w15 hv8 hk12 hn8 S
          subst hv8
          exact Du S rfl rfl rfl hb10 (Vu S Hj rfl rfl fun a S=>lv S (Jr hb10 (S.tm rfl) (S.tm rfl)) rfl fun a S=>Dl (⟨hk12,S.nf [true] rfl ⟨rfl,trivial⟩⟩))
        clear S;rintro a w14 ⟨hk13,S⟩
        refine Va S rfl rfl fun a S=>Dl (Fc h (S.tm rfl) (fun hb11 h=>?_) (fun hb11 h=>?_))
        ·refine Fr (Vk S rfl rfl fun a S=>Dl (wp_ret (Dt (Fl (Dt (Dt ?_))))))
         obtain rfl:=Option.some.inj h
         exact Ej S results98 rfl rfl
        ·exact wp_skip (Tn (⟨h,S.nf [false] rfl trivial⟩))
     clear S h;rintro a w6 ⟨h,S⟩;rw [hj2] at h;clear hj2 j2
     exact Ho (Tn (⟨h,S.nf [] rfl trivial⟩))
 clear S h;rintro a w2 ⟨h,S⟩;rw [hj1] at h;clear hj1 j1
 refine Tn (Fr (Vk S rfl rfl fun a S=>Dl (wp_ret ?_)))
 obtain rfl:=Option.some.inj h
 exact Ej S results98 rfl rfl
theorem DB (w : World) (Ar : Kk) (r : Int) (h : Wl Ar = some r) :
    Calls prog 66 [.agg (Kk.enc Ar).toArray].toArray w (Ret w [] fun _ v _=>v = iV r):=by
 refine Fe func66 rfl ntmps66 rfl fun a S=>?_
 unfold Wl at h
 replace S:=S.k1 0 rfl
 refine Fr (Mn S (S.tm rfl) (cs:=(Kk.enc Ar)) rfl rfl ?_);clear S;intro a w1 b1 hz1 hk1 S
 refine Vk S rfl rfl fun a S=>Dl (Fs (Fr (lv S (Fp isAgg94 sizeOf94 (off:=0) (o:=0) (part:=(Kk.enc Ar)) rfl rfl (S.tm rfl) (S.cellsAt (i:=0) rfl)) rfl ?_)));clear S;intro a S
 obtain ⟨r1,hr1,h⟩:=Fa h
 refine Dw S (fun _=>Dp (vs:=[.agg (Kk.enc Ar).toArray]) ⟨(S.tm rfl),trivial⟩ call98) (DA _ Ar _ hr1) rfl ?_;clear S;intro v1 a w2 hv1 hk2 hn1 S
 subst hv1
 refine Va S rfl rfl fun a S=>Dz (Vm S rfl rfl fun a S=>Vq S Kw rfl rfl rfl fun a S=>Dl (Fc h (S.tm rfl) (fun hb1 h=>?_) (fun hb1 h=>?_)))
 ·refine Fr (Vm S rfl rfl fun a S=>Va S rfl rfl fun a S=>Dl (wp_ret (Dt ?_)))
  obtain rfl:=Option.some.inj h
  exact Ej S results66 rfl rfl
 ·refine wp_skip (Tn (Fs (Fr (Vf HU S rfl rfl fun a S=>Vl isAgg3 0 S rfl rfl rfl rfl fun a S=>Vq S Kw rfl rfl rfl fun a S=>Dl (Fc h (S.tm rfl) (fun hb2 h=>?_) (fun hb2 h=>?_))))))
  ·refine Fr (Vk S rfl rfl fun a S=>Dl (wp_ret (Dt ?_)))
   obtain rfl:=Option.some.inj h
   exact Ej S results66 rfl rfl
  ·refine wp_skip (Tn (Fr (Vk S rfl rfl fun a S=>Dl (wp_ret ?_))))
   obtain rfl:=Option.some.inj h
   exact Ej S results66 rfl rfl
theorem AJ (w : World) (Ax : Value) (Ar : List ByteArray) (Bf : Slc (view w []) 1 Ax (Ar.map CS)) (Cd : ByteArray) (r : Int) (h : Uh Ar Cd = r) :
    Calls prog 119 [Ax,sV Cd].toArray w (Ret w [] fun _ v _=>v = iV r):=by
 refine Fe func119 rfl ntmps119 rfl fun a S=>?_
 unfold Uh at h
 replace S:=S.k2 0 1 rfl
 refine Fr (Vk S rfl rfl fun a S=>Dl (Fs (Fr (Vm S rfl rfl fun a S=>lv S (Fq Zd (S.tm rfl) (Fj Bf)) rfl fun a S=>lv S (Rm rfl) rfl ?_))));clear S;intro a S
 refine Dl ?_
 replace S:=S.k4 0 1 7 8 rfl
 obtain ⟨j1,hj1,h⟩:=Ep h
 refine Eg (fun a w'=>j1 = r ∧ Sx w [] nov [] [] 19 a w') ?_ ?_
 ·refine wp_block (Gx (fun (ys1 : List ByteArray) a w'=>∃ i1 : Nat,(∃ dn,Ar = dn ++ ys1 ∧ dn.length = i1) ∧ Kv Cd j1 ys1 i1 = r ∧ Sx w [] nov [] [(0,Ax),(1,sV Cd),(7,iV (Ar.length : Int)),(8,iV (i1 : Int))] 19 a w') List.length Ar ⟨0,⟨[],rfl,rfl⟩,h,S.nf [] rfl (subR rfl)⟩ ?_)
  clear S h;rintro ys1 a w1 ⟨i1,⟨dn,hd1,hi1⟩,h,S⟩
  cases ys1 with
  | nil =>
   rw [Kv.eq_1] at h
   refine Fr (Vb S Et rfl rfl rfl fun a S=>Ld ?_)
   replace S:=S.k5 0 1 7 8 9 rfl
   exact Tn (Fs (wp_cond_false ((S.tm rfl).trans (congrArg Value.bool (Il hd1 hi1))) (wp_exit (Ed (Ed (Gp (Tn (⟨h,S.nf [] rfl trivial⟩))))))))
  | cons y1 ys1 =>
   rw [Kv.eq_2] at h
   refine Fr (Vb S Et rfl rfl rfl fun a S=>Ld ?_)
   replace S:=S.k5 0 1 7 8 9 rfl
   refine Tn (Fs (wp_cond_true ((S.tm rfl).trans (congrArg Value.bool (Ht hd1 hi1))) (wp_skip (Tn (Fs (wp_block (Fr (Vm S rfl rfl fun a S=>Va S rfl rfl ?_))))))));clear S;intro a S
   refine Dl (Fs (Fg ?_))
   iterate 3 (refine Vm S rfl rfl ?_;clear S;intro a S)
   obtain ⟨b1,o1,hm1,hr1⟩:=Ev (a:=a) (x:=.tmp 12) (y:=.tmp 13) (ty:=0) Zd Bf (Io hd1 hi1) rfl (S.tm rfl) (S.tm rfl)
   refine lv S (hr1 _) rfl ?_;clear S;intro a S
   clear hr1
   refine lv S (Hm isAgg9 (off:=o1) (o:=0) (S.tm rfl) (hm1.at S.emb0) rfl) rfl fun a S=>Vb S Ve rfl rfl rfl fun a S=>Dl (Fc h (S.tm rfl) (fun hb1 h=>?_) (fun hb1 h=>?_))
   ·refine Fr (Vm S rfl rfl fun a S=>Va S rfl rfl fun a S=>Ld ?_)
    replace S:=S.k1 4 rfl
    refine Tn (wp_ret (Fl (Dt (Dt (Fl (Dt (Dt ?_)))))))
    subst h
    exact Ej S results119 rfl rfl
   ·exact wp_skip (Ho (Tn (Fg (Vq S Gc rfl rfl rfl fun a S=>Vm S rfl rfl fun a S=>Dl (⟨ys1,⟨i1 + 1,⟨_,(hd1).trans (List.append_cons _ _ _),by simp [hi1]⟩,h,S.nf [] rfl ⟨rfl,rfl,rfl,(congrArg (fun z=>some (Value.int .i64 z)) (Hu hd1 hi1 (Iz Bf))),trivial⟩⟩,Nat.lt_succ_self _⟩)))))
 clear S h;rintro a w2 ⟨h,S⟩;rw [hj1] at h;clear hj1 j1
 refine Tn (Fr (Vk S rfl rfl fun a S=>Dl (wp_ret ?_)))
 subst h
 exact Ej S results119 rfl rfl
theorem Yi (w : World) (Ax : Value) (Ar : List ByteArray) (Bf : Slc (view w []) 1 Ax (Ar.map CS)) (Cd : ByteArray) (r : Bool) (h : Jw Ar Cd = r) :
    Calls prog 99 [Ax,sV Cd].toArray w (Ret w [] fun _ v _=>v = bV r):=by
 refine Fe func99 rfl ntmps99 rfl fun a S=>?_
 unfold Jw at h
 replace S:=S.k2 0 1 rfl
 refine Fr (Vk S rfl rfl fun a S=>Dz (Vm S rfl rfl fun a S=>Vm S rfl rfl fun a S=>Dw S (fun _=>Dp (vs:=[Ax,sV Cd]) ⟨(S.tm rfl),(S.tm rfl),trivial⟩ call119) (AJ _ Ax Ar (Bf.mono (S.le_arg Ec)) Cd _ rfl) rfl ?_));clear S;intro v1 a w1 hv1 hk1 hn1 S
 subst hv1
 refine Vq S Qe rfl rfl rfl fun a S=>Va S rfl rfl fun a S=>Dl (wp_ret ?_)
 subst h
 exact Ej S results99 rfl rfl
theorem HG (w : World) (Br : Uk) (Df : R91) (Dj : BH (view w []) Br Df) (Ar : Kk) (r : Bool) (h : Zz Br Ar = r) :
    Calls prog 67 [.agg (R91.enc Df).toArray,.agg (Kk.enc Ar).toArray].toArray w (Ret w [] fun _ v _=>v = bV r):=by
 obtain ⟨u1,rfl,hs1⟩:=Dj
 refine Fe func67 rfl ntmps67 rfl fun a S=>?_
 unfold Zz at h
 replace S:=S.k2 0 1 rfl
 refine Fr (Mn S (S.tm rfl) (cs:=[sV Br.Key,sV Br.Race,u1.val,iV Br.Young,iV Br.Old]) rfl rfl ?_);clear S;intro a w1 b1 hz1 hk1 S
 refine Mn S (S.tm rfl) (cs:=(Kk.enc Ar)) rfl rfl ?_;clear S;intro a w2 b2 hz2 hk2 S
 refine Vk S rfl rfl fun a S=>Dz (Vf QT S rfl rfl fun a S=>Vl isAgg9 0 S rfl rfl rfl rfl fun a S=>Vf QQ S rfl rfl fun a S=>Vl isAgg9 1 S rfl rfl rfl rfl fun a S=>Vb S Ve rfl rfl rfl fun a S=>Vm S rfl rfl ?_);clear S;intro a S
 refine Hn 12 (fun a w'=>Keep [] w2 w' ∧ Sx w [] nov [.blk b2 (Kk.enc Ar) 94,.blk b1 [sV Br.Key,sV Br.Race,u1.val,iV Br.Young,iV Br.Old] 91] [(2,.pointer (some ⟨b1,0,none⟩)),(3,.pointer (some ⟨b2,0,none⟩)),(22,bV ((decide (Ar.Race = Br.Race)) && ((decide ((Br.Clubs.length : Int) = 0)) || (Jw Br.Clubs Ar.Club))))] 32 a w') ?_ ?_
 ·rcases Bool.eq_false_or_eq_true (decide (Ar.Race = Br.Race)) with hb1 | hb1
  ·refine Du S rfl rfl rfl hb1 (Vf ES S rfl rfl fun a S=>Du S rfl rfl rfl hb1 (Vl isAgg87 1 S rfl rfl rfl rfl fun a S=>Du S rfl rfl rfl hb1 (lv S (Fq Zd (S.tm rfl) (Fj hs1)) rfl fun a S=>Du S rfl rfl rfl hb1 (Vq S Im rfl rfl rfl fun a S=>Du S rfl rfl rfl hb1 (Vm S rfl rfl fun a S=>Hn 6 (fun a w'=>Keep [] w2 w' ∧ Sx w [] nov [.blk b2 (Kk.enc Ar) 94,.blk b1 [sV Br.Key,sV Br.Race,u1.val,iV Br.Young,iV Br.Old] 91] [(2,.pointer (some ⟨b1,0,none⟩)),(3,.pointer (some ⟨b2,0,none⟩)),(10,bV (decide (Ar.Race = Br.Race))),(21,bV ((decide ((Br.Clubs.length : Int) = 0)) || (Jw Br.Clubs Ar.Club)))] 32 a w') ?_ ?_)))))
   ·rcases Bool.eq_false_or_eq_true (decide ((Br.Clubs.length : Int) = 0)) with hb2 | hb2
    ·iterate 5 (refine Gn S rfl rfl rfl (Kp hb2) rfl ?_ rfl;clear S;intro a S)
     exact Du S rfl rfl rfl hb1 (lv S (Jq (Jw Br.Clubs Ar.Club) hb2 (S.tm rfl) rfl) rfl fun a S=>Dl (⟨Keep.refl _ _,S.nf [true,true] rfl (subR rfl)⟩))
    ·refine Du S rfl rfl rfl hb2 (Vf ES S rfl rfl fun a S=>Du S rfl rfl rfl hb2 (Vl isAgg87 1 S rfl rfl rfl rfl fun a S=>Du S rfl rfl rfl hb2 (Vf LY S rfl rfl fun a S=>Du S rfl rfl rfl hb2 (Vl isAgg9 0 S rfl rfl rfl rfl fun a S=>Du S rfl rfl rfl hb2 (Dw S (fun _=>Dp (vs:=[u1.val,sV Ar.Club]) ⟨(S.tm rfl),(S.tm rfl),trivial⟩ call99) (Yi _ u1.val Br.Clubs (hs1.mono (S.le_arg Ec)) Ar.Club _ rfl) rfl ?_)))));clear S;intro v1 a w5 hv1 hk3 hn1 S
     subst hv1
     exact Du S rfl rfl rfl hb1 (lv S (Jr hb2 (S.tm rfl) (S.tm rfl)) rfl fun a S=>Dl (⟨hk3,S.nf [true,true] rfl (subR rfl)⟩))
   clear S;rintro a w4 ⟨hk4,S⟩
   exact lv S (Hg hb1 (S.tm rfl) (S.tm rfl)) rfl fun a S=>Dl (⟨hk4,S.nf [true,true] rfl (subR rfl)⟩)
  ·iterate 5 (refine Gn S rfl rfl rfl (Jh hb1) rfl ?_ rfl;clear S;intro a S)
   iterate 5 (refine Xl S rfl rfl rfl rfl ?_;clear S;intro a S)
   exact Gn S rfl rfl rfl (Jh hb1) rfl (fun a S=>lv S (Hh ((decide ((Br.Clubs.length : Int) = 0)) || (Jw Br.Clubs Ar.Club)) hb1 (S.tm rfl) rfl) rfl fun a S=>Dl (⟨Keep.refl _ _,S.nf [true,true] rfl (subR rfl)⟩)) rfl
 clear S;rintro a w3 ⟨hk5,S⟩
 refine Vm S rfl rfl fun a S=>Hn 8 (fun a w'=>Keep [] w3 w' ∧ Sx w [] nov [.blk b2 (Kk.enc Ar) 94,.blk b1 [sV Br.Key,sV Br.Race,u1.val,iV Br.Young,iV Br.Old] 91] [(31,bV (((decide (Ar.Race = Br.Race)) && ((decide ((Br.Clubs.length : Int) = 0)) || (Jw Br.Clubs Ar.Club))) && (Dv Ar.Age Br.Young Br.Old)))] 32 a w') ?_ ?_
 ·rcases Bool.eq_false_or_eq_true ((decide (Ar.Race = Br.Race)) && ((decide ((Br.Clubs.length : Int) = 0)) || (Jw Br.Clubs Ar.Club))) with hb3 | hb3
  ·refine Du S rfl rfl rfl hb3 (Vf QU S rfl rfl fun a S=>Du S rfl rfl rfl hb3 (Vl isAgg3 0 S rfl rfl rfl rfl fun a S=>Du S rfl rfl rfl hb3 (Vf LW S rfl rfl fun a S=>Du S rfl rfl rfl hb3 (Vl isAgg3 1 S rfl rfl rfl rfl fun a S=>Du S rfl rfl rfl hb3 (Vf LX S rfl rfl fun a S=>Du S rfl rfl rfl hb3 ?_)))))
   refine Vl isAgg3 1 S rfl rfl rfl rfl fun a S=>Du S rfl rfl rfl hb3 (Dw S (fun _=>Dp (vs:=[iV Ar.Age,iV Br.Young,iV Br.Old]) ⟨(S.tm rfl),(S.tm rfl),(S.tm rfl),trivial⟩ call55) (Fm _ Ar.Age Br.Young Br.Old _ rfl) rfl ?_);clear S;intro v2 a w7 hv2 hk6 hn2 S
   subst hv2
   exact lv S (Hg hb3 (S.tm rfl) (S.tm rfl)) rfl fun a S=>Dl (⟨hk6,S.nf [true,true] rfl ⟨rfl,trivial⟩⟩)
  ·iterate 7 (refine Gn S rfl rfl rfl (Jh hb3) rfl ?_ rfl;clear S;intro a S)
   exact lv S (Hh (Dv Ar.Age Br.Young Br.Old) hb3 (S.tm rfl) rfl) rfl fun a S=>Dl (⟨Keep.refl _ _,S.nf [true,true] rfl ⟨rfl,trivial⟩⟩)
 clear S;rintro a w6 ⟨hk7,S⟩
 refine Va S rfl rfl fun a S=>Dl (wp_ret ?_)
 subst h
 exact Ej S results67 rfl rfl
theorem JS (w : World) (Ab : Value) (Ah : List Uk) (Ct : List R91) (Af : Slc (view w []) 5 Ab (Ct.map R91.enc)) (Cm : Lh (BH (view w [])) Ah Ct) (Ar : Kk) (r : (List ByteArray) × Int) (h : DP Ah Ar = some r) :
    Calls prog 29 [Ab,.agg (Kk.enc Ar).toArray].toArray w (Ret w [] fun τ v _=>∃ u1 : Value,v = .tuple #[u1,iV r.2] ∧ Tf τ 9 1 u1 r.1.length (r.1.flatMap CS)):=by
 refine Fe func29 rfl ntmps29 rfl fun a S=>?_
 unfold DP at h
 replace S:=S.k2 0 1 rfl
 refine Fr (Mn S (S.tm rfl) (cs:=(Kk.enc Ar)) rfl rfl ?_);clear S;intro a w1 b1 hz1 hk1 S
 refine Vk S rfl rfl fun a S=>Vk S rfl rfl fun a S=>Dl (Fs (Fr (Vm S rfl rfl ?_)));clear S;intro a S
 obtain ⟨r1,hr1,h⟩:=Fa h
 refine Dw S (fun _=>Dp (vs:=[Ab]) ⟨(S.tm rfl),trivial⟩ call65) (BV _ Ab Ah Ct (Af.mono (S.le_arg Ec)) (QI (S.le_arg Ec) Cm) _ hr1) rfl ?_;clear S;intro v1 a w2 hv1 hk2 hn1 S
 subst hv1
 refine Va S rfl rfl fun a S=>Dz (Vm S rfl rfl fun a S=>Vq S Kw rfl rfl rfl fun a S=>Dl (Fc h (S.tm rfl) (fun hb1 h=>?_) (fun hb1 h=>?_)))
 ·refine Fr (Vm S rfl rfl fun a S=>Vk S rfl rfl fun a S=>Va S rfl rfl fun a S=>Dl (wp_ret (Dt ?_)))
  obtain rfl:=Option.some.inj h
  exact Lg S results29 rfl rfl ⟨_,rfl,(Qf _ _ _)⟩
 ·refine wp_skip (Tn (Fs (Fr (lv S (Fp isAgg94 sizeOf94 (off:=0) (o:=0) (part:=(Kk.enc Ar)) rfl rfl (S.tm rfl) (S.cellsAt (i:=0) rfl)) rfl ?_))));clear S;intro a S
  obtain ⟨r2,hr2,h⟩:=Fa h
  refine Dw S (fun _=>Dp (vs:=[.agg (Kk.enc Ar).toArray]) ⟨(S.tm rfl),trivial⟩ call66) (DB _ Ar _ hr2) rfl ?_;clear S;intro v2 a w3 hv2 hk3 hn2 S
  subst hv2
  refine Va S rfl rfl fun a S=>Dz (Vm S rfl rfl fun a S=>Vq S Kw rfl rfl rfl fun a S=>Ld ?_)
  replace S:=(S.nl [.blk b1 (Kk.enc Ar) 94] [true] rfl).k4 0 3 7 19 rfl
  refine Tn (Fc h (S.tm rfl) (fun hb2 h=>?_) (fun hb2 h=>?_))
  ·refine Fr (Vm S rfl rfl fun a S=>Vk S rfl rfl fun a S=>Va S rfl rfl fun a S=>Dl (wp_ret (Dt ?_)))
   obtain rfl:=Option.some.inj h
   exact Lg S results29 rfl rfl ⟨_,rfl,(Qf _ _ _)⟩
  ·refine wp_skip (Tn (Fr (Vk S rfl rfl ?_)));clear S;intro a S
   replace S:=S.nil 9 1
   refine Dl (Fs (Fr (Vm S rfl rfl fun a S=>lv S (Fq KN (S.tm rfl) (Uj Af Cm)) rfl fun a S=>lv S (Rm rfl) rfl fun a S=>Dl ?_)))
   replace S:=(S.nl [.own (.slice none 0 0) 9 1 ([] : List ByteArray).length (([] : List ByteArray).flatMap CS),.blk b1 (Kk.enc Ar) 94] [true,true] rfl).k5 3 8 21 22 23 rfl
   obtain ⟨j1,hj1,h⟩:=Ep h
   refine Eg (fun a w'=>∃ x1 : List ByteArray,∃ v3 : Value,j1 x1 = some r ∧ Sx w [] nov [.own v3 9 1 x1.length (x1.flatMap CS),.blk b1 (Kk.enc Ar) 94] [(8,v3)] 37 a w') ?_ ?_
   ·refine wp_block (Gx (fun (ys1 : List Uk) a w'=>∃ i1 : Nat,∃ x1 : List ByteArray,∃ v3 : Value,(∃ dn,Ah = dn ++ ys1 ∧ dn.length = i1) ∧ Pz Ar j1 ys1 i1 x1 = some r ∧ Sx w [] nov [.own v3 9 1 x1.length (x1.flatMap CS),.blk b1 (Kk.enc Ar) 94] [(3,.pointer (some ⟨b1,0,none⟩)),(8,v3),(21,Ab),(22,iV (Ah.length : Int)),(23,iV (i1 : Int))] 37 a w') List.length Ah ⟨0,([] : List ByteArray),(.slice none 0 0),⟨[],rfl,rfl⟩,h,S.nf [true,true] rfl (subR rfl)⟩ ?_)
    clear S h;rintro ys1 a w4 ⟨i1,x1,v3,⟨dn,hd1,hi1⟩,h,S⟩
    cases ys1 with
    | nil =>
     rw [Pz.eq_1] at h
     refine Fr (Vb S Et rfl rfl rfl fun a S=>Ld ?_)
     replace S:=S.k6 3 8 21 22 23 24 rfl
     exact Tn (Fs (wp_cond_false ((S.tm rfl).trans (congrArg Value.bool (Il hd1 hi1))) (wp_exit (Ed (Ed (Gp (Tn (⟨x1,v3,h,S.nf [true,true] rfl ⟨rfl,trivial⟩⟩))))))))
    | cons y1 ys1 =>
     rw [Pz.eq_2] at h
     refine Fr (Vb S Et rfl rfl rfl fun a S=>Ld ?_)
     replace S:=S.k6 3 8 21 22 23 24 rfl
     refine Tn (Fs (wp_cond_true ((S.tm rfl).trans (congrArg Value.bool (Ht hd1 hi1))) (wp_skip (Tn (Fs ?_)))))
     obtain ⟨j2,hj2,h⟩:=Ep h
     refine Eg (fun a w'=>∃ x2 : List ByteArray,∃ v4 : Value,j2 x2 = some r ∧ Sx w [] nov [.own v4 9 1 x2.length (x2.flatMap CS),.blk b1 (Kk.enc Ar) 94] [(3,.pointer (some ⟨b1,0,none⟩)),(8,v4),(21,Ab),(22,iV (Ah.length : Int)),(23,iV (i1 : Int))] 37 a w') ?_ ?_
     ·refine wp_block (Fs (Fg ?_))
      obtain ⟨r3,hg1,hl1⟩:=Lh.at Cm (Io hd1 hi1)
      obtain ⟨u1,rfl,hs1⟩:=hl1
      obtain ⟨b2,o1,hm1,hr3⟩:=Ev (a:=a) (x:=.tmp 21) (y:=.tmp 23) (ty:=0) KN Af hg1 rfl (S.tm rfl) (S.tm rfl)
      refine lv S (hr3 _) rfl ?_;clear S;intro a S
      clear hr3
      refine lv S (Fp isAgg91 sizeOf91 (off:=o1) (o:=0) (part:=[sV y1.Key,sV y1.Race,u1.val,iV y1.Young,iV y1.Old]) rfl rfl (S.tm rfl) (hm1.at S.emb0)) rfl fun a S=>Hs S zeroValue91 (cs:=[sV An,sV An,.slice none 0 0,iV 0,iV 0]) rfl rfl ?_;clear S;intro a w7 b3 hz2 hk4 S
      refine Ex S (S.tm rfl) (S.tm rfl) (i:=0) (off:=0) rfl sizeOf91 (vs:=[sV y1.Key,sV y1.Race,u1.val,iV y1.Young,iV y1.Old]) rfl rfl rfl (Qz rfl (Qz rfl (Qz (Kq.one (Fj hs1)) (Qz rfl (Qz rfl rfl))))) ?_;clear S;intro w8 hk5 S
      refine Dz (lv S (Fp isAgg91 sizeOf91 (off:=0) (o:=0) (part:=[sV y1.Key,sV y1.Race,u1.val,iV y1.Young,iV y1.Old]) rfl rfl (S.tm rfl) (S.cellsAt (i:=0) rfl)) rfl fun a S=>lv S (Fp isAgg94 sizeOf94 (off:=0) (o:=0) (part:=(Kk.enc Ar)) rfl rfl (S.tm rfl) (S.cellsAt (i:=2) rfl)) rfl fun a S=>Dw S (fun _=>Dp (vs:=[.agg (R91.enc (R91.mk y1.Key y1.Race u1 y1.Young y1.Old)).toArray,.agg (Kk.enc Ar).toArray]) ⟨(S.tm rfl),(S.tm rfl),trivial⟩ call67) (HG _ y1 (R91.mk y1.Key y1.Race u1 y1.Young y1.Old) ⟨u1,rfl,(hs1.mono (S.le_arg Ec))⟩ Ar _ rfl) rfl ?_);clear S;intro v5 a w9 hv3 hk6 hn3 S
      subst hv3
      refine Dl ?_
      obtain ⟨j3,hj3,h⟩:=Ep h
      refine Eg (fun a w'=>∃ x3 : List ByteArray,∃ v6 : Value,j3 x3 = some r ∧ Sx w [] nov [.own v6 9 1 x3.length (x3.flatMap CS),.blk b1 (Kk.enc Ar) 94] [(3,.pointer (some ⟨b1,0,none⟩)),(8,v6),(21,Ab),(22,iV (Ah.length : Int)),(23,iV (i1 : Int))] 37 a w') ?_ ?_
      ·refine Fc h (S.tm rfl) (fun hb3 h=>?_) (fun hb3 h=>?_)
       ·refine Fg (Vm S rfl rfl fun a S=>Vf HT S rfl rfl fun a S=>Vl isAgg9 0 S rfl rfl rfl rfl fun a S=>Er S underlying87 sizeOf9 zeroValue9 rfl rfl (pv:=[(0,sV y1.Key)]) ⟨rfl,(S.tm rfl),trivial⟩ (cs:=[sV y1.Key]) (by kernel_rfl) rfl ?_);clear S;intro a w11 b4 hz3 hk7 S
        obtain ⟨hc1,h⟩:=Ie h
        refine Ms Zd Ta S (S.tm rfl) (i:=2) rfl (S.tm rfl) (j:=0) rfl (ys:=[y1.Key]) rfl rfl rfl rfl (by have:=Nd hc1;omega) rfl ?_;clear S;intro v7 a w12 hk8 S
        refine Va S rfl rfl fun a S=>Ld ?_
        replace S:=(S.nl [.own v7 9 1 (x1 ++ [y1.Key]).length ((x1 ++ [y1.Key]).flatMap CS),.blk b1 (Kk.enc Ar) 94] [false,false,true,true] rfl).k5 3 8 21 22 23 rfl
        exact Tn (⟨(x1 ++ [y1.Key]),v7,h,S.nf [true,true] rfl (subR rfl)⟩)
       ·exact wp_skip (Tn (⟨x1,v3,h,S.nf [false,true,true] rfl (subR rfl)⟩))
      clear S h;rintro a w10 ⟨x3,v6,h,S⟩;rw [hj3] at h;clear hj3 j3
      exact Ho (Tn (⟨x3,v6,h,S.nf [true,true] rfl (subR rfl)⟩))
     clear S h;rintro a w6 ⟨x2,v4,h,S⟩;rw [hj2] at h;clear hj2 j2
     exact Tn (Fg (Vq S Gc rfl rfl rfl fun a S=>Vm S rfl rfl fun a S=>Dl (⟨ys1,⟨i1 + 1,x2,v4,⟨_,(hd1).trans (List.append_cons _ _ _),by simp [hi1]⟩,h,S.nf [true,true] rfl ⟨rfl,rfl,rfl,rfl,(congrArg (fun z=>some (Value.int .i64 z)) (Hu hd1 hi1 (Wy Af Cm))),trivial⟩⟩,Nat.lt_succ_self _⟩)))
   clear S h;rintro a w5 ⟨x1,v3,h,S⟩;rw [hj1] at h;clear hj1 j1
   refine Tn (Fr (Vm S rfl rfl fun a S=>Va S rfl rfl fun a S=>Vk S rfl rfl fun a S=>Dl (wp_ret ?_)))
   obtain rfl:=Option.some.inj h
   exact Lg S results29 rfl rfl ⟨_,rfl,(Th S (i:=0) rfl rfl)⟩
theorem DY (w : World) (r : Bool) (h : Sp = some r) :
    Calls prog 13 [].toArray w (Ret w [] fun _ v _=>v = bV r):=by
 refine Fe func13 rfl ntmps13 rfl fun a S=>?_
 unfold Sp at h
 replace S:=S.k0
 refine Fr (Vk S rfl rfl fun a S=>Dz (lv S (Mr bt_78 (pv:=[(0,iV 2024),(1,iV 3),(2,iV 1)]) ⟨rfl,rfl,rfl,rfl,rfl,rfl,trivial⟩ (cs:=[iV 2024,iV 3,iV 1]) (by kernel_rfl)) rfl ?_));clear S;intro a S
 obtain ⟨r1,hr1,h⟩:=Fa h
 refine Dw S (fun _=>Dp (vs:=[.agg (Mt.enc (Mt.mk 2024 3 1)).toArray]) ⟨(S.tm rfl),trivial⟩ call26) (FX _ (Mt.mk 2024 3 1) _ hr1) rfl ?_;clear S;intro v1 a w1 hv1 hk1 hn1 S
 subst hv1
 refine Vm S rfl rfl fun a S=>Vq S Gb rfl rfl rfl fun a S=>Vq S Gb rfl rfl rfl fun a S=>Va S rfl rfl fun a S=>Va S rfl rfl fun a S=>Dz (lv S (Mr bt_81 (pv:=[(0,sV k_a),(1,iV 2),(2,iV 10),(3,iV 5)]) ⟨rfl,rfl,rfl,rfl,rfl,rfl,rfl,rfl,trivial⟩ (cs:=[sV k_a,iV 2,iV 10,iV 5,iV 0]) (by kernel_rfl)) rfl fun a S=>Er S underlying82 sizeOf81 zeroValue81 rfl rfl (pv:=[(0,.agg #[sV k_a,iV 2,iV 10,iV 5,iV 0])]) ⟨rfl,(S.tm rfl),trivial⟩ (cs:=[sV k_a,iV 2,iV 10,iV 5,iV 0]) (by kernel_rfl) rfl ?_);clear S;intro a w2 b1 hz1 hk2 S
 obtain ⟨r2,hr2,h⟩:=Fa h
 refine Dw S (fun _=>Dp (vs:=[.slice (some ⟨b1,0,none⟩) 1 1,iV 0]) ⟨(S.tm rfl),rfl,trivial⟩ call27) (HF _ (.slice (some ⟨b1,0,none⟩) 1 1) [(Ns.mk k_a 2 10 5 0)] (Jx Ns.enc_ok S (i:=0) rfl rfl rfl rfl ((Ia (e':=.blk b1 [sV k_a,iV 2,iV 10,iV 5,iV 0] 81)) _ rfl)) 0 _ hr2) rfl ?_;clear S;intro v2 a w3 hv2 hk3 hn2 S
 subst hv2
 refine Vm S rfl rfl fun a S=>Vq S Gb rfl rfl rfl fun a S=>Vq S Gb rfl rfl rfl fun a S=>Va S rfl rfl fun a S=>Va S rfl rfl fun a S=>Ld ?_
 replace S:=S.n0.k4 1 2 3 4 rfl
 refine Tn (Fr (lv S (Mr bt_85 (pv:=[(0,sV k_r),(1,iV 3000)]) ⟨rfl,rfl,rfl,rfl,trivial⟩ (cs:=[sV k_r,iV 3000]) (by kernel_rfl)) rfl fun a S=>Er S underlying86 sizeOf85 zeroValue85 rfl rfl (pv:=[(0,.agg #[sV k_r,iV 3000])]) ⟨rfl,(S.tm rfl),trivial⟩ (cs:=[sV k_r,iV 3000]) (by kernel_rfl) rfl ?_));clear S;intro a w4 b2 hz2 hk4 S
 obtain ⟨r3,hr3,h⟩:=Fa h
 refine Dw S (fun _=>Dp (vs:=[.slice (some ⟨b2,0,none⟩) 1 1,sV k_r,iV 6000]) ⟨(S.tm rfl),rfl,rfl,trivial⟩ call28) (GB _ (.slice (some ⟨b2,0,none⟩) 1 1) [(Rp.mk k_r 3000)] (Jx Rp.enc_ok S (i:=0) rfl rfl rfl rfl ((Ia (e':=.blk b2 [sV k_r,iV 3000] 85)) _ rfl)) k_r 6000 _ hr3) rfl ?_;clear S;intro v3 a w5 hv3 hk5 hn3 S
 subst hv3
 refine Vm S rfl rfl fun a S=>Vq S Gb rfl rfl rfl fun a S=>Vq S Gb rfl rfl rfl fun a S=>Va S rfl rfl fun a S=>Va S rfl rfl fun a S=>Dz (lv S (Mr bt_91 (pv:=[(0,sV k_k),(1,sV k_r),(4,iV 9)]) ⟨rfl,rfl,rfl,rfl,rfl,rfl,trivial⟩ (cs:=[sV k_k,sV k_r,.slice none 0 0,iV 0,iV 9]) (by kernel_rfl)) rfl fun a S=>Er S underlying92 sizeOf91 zeroValue91 rfl rfl (pv:=[(0,.agg #[sV k_k,sV k_r,.slice none 0 0,iV 0,iV 9])]) ⟨rfl,(S.tm rfl),trivial⟩ (cs:=[sV k_k,sV k_r,.slice none 0 0,iV 0,iV 9]) (by kernel_rfl) rfl ?_);clear S;intro a w6 b3 hz3 hk6 S
 refine lv S (Mr bt_94 (pv:=[(1,iV 1),(2,sV k_i),(3,sV k_a),(5,sV k_r),(7,iV 5)]) ⟨rfl,rfl,rfl,rfl,rfl,rfl,rfl,rfl,rfl,rfl,trivial⟩ (cs:=[iV 0,iV 1,sV k_i,sV k_a,sV An,sV k_r,iV 0,iV 5]) (by kernel_rfl)) rfl ?_;clear S;intro a S
 have hr4 : Lh (BH nov) ([(Uk.mk k_k k_r ([] : List ByteArray) 0 9)] : List Uk) ([(R91.mk k_k k_r ⟨.slice none 0 0,rfl⟩ 0 9)] : List R91):=(Lh.cons ⟨⟨.slice none 0 0,rfl⟩,rfl,(HK _ _)⟩ Lh.nil)
 replace S:=S.litOwn (i:=0) (xs:=([(R91.mk k_k k_r ⟨.slice none 0 0,rfl⟩ 0 9)] : List R91)) rfl R91.enc_ok rfl rfl rfl
 replace S:=S.nk [.own (.slice (some ⟨b3,0,none⟩) 1 1) 91 5 ([(R91.mk k_k k_r ⟨.slice none 0 0,rfl⟩ 0 9)] : List R91).length (([(R91.mk k_k k_r ⟨.slice none 0 0,rfl⟩ 0 9)] : List R91).flatMap R91.enc),.blk b2 [sV k_r,iV 3000] 85] [(1,iV r1.1),(2,iV r1.2),(3,iV r2.1),(4,iV r2.2),(5,iV r3.1),(6,iV r3.2),(20,.tuple #[iV r3.1,iV r3.2]),(21,.agg #[sV k_r,iV 3000]),(22,.slice (some ⟨b2,0,none⟩) 1 1),(23,.tuple #[iV r3.1,iV r3.2]),(24,iV r3.1),(25,iV r3.2),(27,.agg #[sV k_k,sV k_r,.slice none 0 0,iV 0,iV 9]),(28,(.slice (some ⟨b3,0,none⟩) 1 1)),(29,.agg (Kk.enc (Kk.mk 0 1 k_i k_a An k_r 0 5)).toArray)] [] rfl (subR rfl)
 obtain ⟨r4,hr5,h⟩:=Fa h
 have hz4:=S.keep.size
 refine Dw S (fun _=>Dp (vs:=[(.slice (some ⟨b3,0,none⟩) 1 1),.agg (Kk.enc (Kk.mk 0 1 k_i k_a An k_r 0 5)).toArray]) ⟨(S.tm rfl),(S.tm rfl),trivial⟩ call29) (JS _ (.slice (some ⟨b3,0,none⟩) 1 1) ([(Uk.mk k_k k_r ([] : List ByteArray) 0 9)] : List Uk) ([(R91.mk k_k k_r ⟨.slice none 0 0,rfl⟩ 0 9)] : List R91) (BB R91.enc_ok S (i:=0) rfl (Ia (e':=.own (.slice (some ⟨b3,0,none⟩) 1 1) 91 5 ([(R91.mk k_k k_r ⟨.slice none 0 0,rfl⟩ 0 9)] : List R91).length (([(R91.mk k_k k_r ⟨.slice none 0 0,rfl⟩ 0 9)] : List R91).flatMap R91.enc)))) (QI (S.le_new Ec) hr4) (Kk.mk 0 1 k_i k_a An k_r 0 5) _ hr5) rfl ?_;clear S;intro v4 a w7 hv4 hk7 hn4 S
 obtain ⟨u1,rfl,ho1⟩:=hv4
 obtain ⟨φ1,hl1,hm1,S⟩:=S.see' hn4 hz4
 have hs1:=ho1.mono hm1
 refine Vm S rfl rfl fun a S=>Vq S Gb rfl rfl rfl fun a S=>Vq S Gb rfl rfl rfl fun a S=>Va S rfl rfl fun a S=>Va S rfl rfl fun a S=>Ld ?_
 replace S:=S.n0.k8 1 2 3 4 5 6 7 8 rfl
 refine Tn (Fs (Fg ?_))
 iterate 4 (refine Vm S rfl rfl ?_;clear S;intro a S)
 refine Er S underlying73 sizeOf38 zeroValue38 rfl rfl (pv:=[(0,iV r1.2),(1,iV r2.2),(2,iV r3.2),(3,iV r4.2)]) ⟨rfl,(S.tm rfl),rfl,(S.tm rfl),rfl,(S.tm rfl),rfl,(S.tm rfl),trivial⟩ (cs:=[iV r1.2,iV r2.2,iV r3.2,iV r4.2]) (by kernel_rfl) rfl ?_;clear S;intro a w8 b4 hz5 hk8 S
 refine Dw S (fun _=>Dp (vs:=[.slice (some ⟨b4,0,none⟩) 4 4]) ⟨(S.tm rfl),trivial⟩ call10) (Yu _ (.slice (some ⟨b4,0,none⟩) 4 4) [r1.2,r2.2,r3.2,r4.2] (Jx Ik S (i:=0) rfl rfl rfl rfl ((Ia (e':=.blk b4 [iV r1.2,iV r2.2,iV r3.2,iV r4.2] 38)) _ rfl)) _ rfl) rfl ?_;clear S;intro v5 a w9 hv5 hk9 hn5 S
 subst hv5
 refine Vq S Im rfl rfl rfl fun a S=>Vm S rfl rfl fun a S=>Hn 3 (fun a w'=>Keep [] w9 w' ∧ Sx w [] φ1 [.blk b4 [iV r1.2,iV r2.2,iV r3.2,iV r4.2] 38] [(3,iV r2.1),(5,iV r3.1),(7,u1),(43,bV ((decide ((Lp [r1.2,r2.2,r3.2,r4.2]) = 0)) && (decide (r1.1 = 60))))] 57 a w') ?_ ?_
 ·rcases Bool.eq_false_or_eq_true (decide ((Lp [r1.2,r2.2,r3.2,r4.2]) = 0)) with hb1 | hb1
  ·exact Du S rfl rfl rfl hb1 (Vm S rfl rfl fun a S=>Du S rfl rfl rfl hb1 (Vq S Im rfl rfl rfl fun a S=>lv S (Hg hb1 (S.tm rfl) (S.tm rfl)) rfl fun a S=>Dl (⟨Keep.refl _ _,S.nf [true] rfl (subR rfl)⟩)))
  ·exact Gn S rfl rfl rfl (Jh hb1) rfl (fun a S=>Gn S rfl rfl rfl (Jh hb1) rfl (fun a S=>lv S (Hh (decide (r1.1 = 60)) hb1 (S.tm rfl) rfl) rfl fun a S=>Dl (⟨Keep.refl _ _,S.nf [true] rfl (subR rfl)⟩)) rfl) rfl
 clear S;rintro a w10 ⟨hk10,S⟩
 refine Vm S rfl rfl fun a S=>Hn 3 (fun a w'=>Keep [] w10 w' ∧ Sx w [] φ1 [.blk b4 [iV r1.2,iV r2.2,iV r3.2,iV r4.2] 38] [(5,iV r3.1),(7,u1),(47,bV (((decide ((Lp [r1.2,r2.2,r3.2,r4.2]) = 0)) && (decide (r1.1 = 60))) && (decide (r2.1 = 25))))] 57 a w') ?_ ?_
 ·rcases Bool.eq_false_or_eq_true ((decide ((Lp [r1.2,r2.2,r3.2,r4.2]) = 0)) && (decide (r1.1 = 60))) with hb2 | hb2
  ·exact Du S rfl rfl rfl hb2 (Vm S rfl rfl fun a S=>Du S rfl rfl rfl hb2 (Vq S Im rfl rfl rfl fun a S=>lv S (Hg hb2 (S.tm rfl) (S.tm rfl)) rfl fun a S=>Dl (⟨Keep.refl _ _,S.nf [true] rfl (subR rfl)⟩)))
  ·exact Gn S rfl rfl rfl (Jh hb2) rfl (fun a S=>Gn S rfl rfl rfl (Jh hb2) rfl (fun a S=>lv S (Hh (decide (r2.1 = 25)) hb2 (S.tm rfl) rfl) rfl fun a S=>Dl (⟨Keep.refl _ _,S.nf [true] rfl (subR rfl)⟩)) rfl) rfl
 clear S;rintro a w11 ⟨hk11,S⟩
 refine Vm S rfl rfl fun a S=>Hn 3 (fun a w'=>Keep [] w11 w' ∧ Sx w [] φ1 [.blk b4 [iV r1.2,iV r2.2,iV r3.2,iV r4.2] 38] [(7,u1),(51,bV ((((decide ((Lp [r1.2,r2.2,r3.2,r4.2]) = 0)) && (decide (r1.1 = 60))) && (decide (r2.1 = 25))) && (decide (r3.1 = 125))))] 57 a w') ?_ ?_
 ·rcases Bool.eq_false_or_eq_true (((decide ((Lp [r1.2,r2.2,r3.2,r4.2]) = 0)) && (decide (r1.1 = 60))) && (decide (r2.1 = 25))) with hb3 | hb3
  ·exact Du S rfl rfl rfl hb3 (Vm S rfl rfl fun a S=>Du S rfl rfl rfl hb3 (Vq S Im rfl rfl rfl fun a S=>lv S (Hg hb3 (S.tm rfl) (S.tm rfl)) rfl fun a S=>Dl (⟨Keep.refl _ _,S.nf [true] rfl (subR rfl)⟩)))
  ·exact Gn S rfl rfl rfl (Jh hb3) rfl (fun a S=>Gn S rfl rfl rfl (Jh hb3) rfl (fun a S=>lv S (Hh (decide (r3.1 = 125)) hb3 (S.tm rfl) rfl) rfl fun a S=>Dl (⟨Keep.refl _ _,S.nf [true] rfl (subR rfl)⟩)) rfl) rfl
 clear S;rintro a w12 ⟨hk12,S⟩
 refine Vm S rfl rfl fun a S=>Hn 4 (fun a w'=>Keep [] w12 w' ∧ Sx w [] φ1 [.blk b4 [iV r1.2,iV r2.2,iV r3.2,iV r4.2] 38] [(56,bV (((((decide ((Lp [r1.2,r2.2,r3.2,r4.2]) = 0)) && (decide (r1.1 = 60))) && (decide (r2.1 = 25))) && (decide (r3.1 = 125))) && (decide ((r4.1.length : Int) = 1))))] 57 a w') ?_ ?_
 ·rcases Bool.eq_false_or_eq_true ((((decide ((Lp [r1.2,r2.2,r3.2,r4.2]) = 0)) && (decide (r1.1 = 60))) && (decide (r2.1 = 25))) && (decide (r3.1 = 125))) with hb4 | hb4
  ·exact Du S rfl rfl rfl hb4 (Vm S rfl rfl fun a S=>Du S rfl rfl rfl hb4 (lv S (Fq Zd (S.tm rfl) (Fj (Ga Ta hs1))) rfl fun a S=>Du S rfl rfl rfl hb4 (Vq S Im rfl rfl rfl fun a S=>lv S (Hg hb4 (S.tm rfl) (S.tm rfl)) rfl fun a S=>Dl (⟨Keep.refl _ _,S.nf [true] rfl ⟨rfl,trivial⟩⟩))))
  ·iterate 3 (refine Gn S rfl rfl rfl (Jh hb4) rfl ?_ rfl;clear S;intro a S)
   exact lv S (Hh (decide ((r4.1.length : Int) = 1)) hb4 (S.tm rfl) rfl) rfl fun a S=>Dl (⟨Keep.refl _ _,S.nf [true] rfl ⟨rfl,trivial⟩⟩)
 clear S;rintro a w13 ⟨hk13,S⟩
 refine Va S rfl rfl fun a S=>Dl (wp_ret ?_)
 obtain rfl:=Option.some.inj h
 exact Ej S results13 rfl rfl
set_option maxHeartbeats 8000000 in
set_option maxRecDepth 20000 in
theorem Vz (w : World) (Ab : Value) (Ah : List Int) (Af : Slc (view w []) 1 Ab (Ah.map eInt)) (r : Bool) (h : Ni Ah = some r) :
    Calls prog 3 [Ab].toArray w (Ret w [] fun _ v _=>v = bV r):=by
 refine Fe func3 rfl ntmps3 rfl fun a S=>?_
 unfold Ni at h
 replace S:=S.k1 0 rfl
 refine Fr (Vk S rfl rfl fun a S=>Dz (Vm S rfl rfl ?_));clear S;intro a S
 refine lv S (Mr bt_25 (pv:=[(0,Ab)]) ⟨rfl,(S.tm rfl),trivial⟩ (cs:=[Ab,iV 0]) (by obtain ⟨_,_,hv⟩:=(Fj Af);rw [hv];clear hv;kernel_rfl)) rfl ?_;clear S;intro a S
 refine Mn S (S.tm rfl) (cs:=[Ab,iV 0]) rfl rfl ?_;clear S;intro a w1 b1 hz1 hk1 S
 refine Va S rfl rfl fun a S=>Dz (Vm S rfl rfl ?_);clear S;intro a S
 obtain ⟨r1,hr1,h⟩:=Fa h
 have hz2:=S.keep.size
 refine Hl 0 S (b:=b1) rfl rfl (fun _=>.blk b1 [Ab,iV r1.2] 25) (fun _=>Dp (vs:=[.pointer (some ⟨b1,0,none⟩)]) ⟨(S.tm rfl),trivial⟩ call4) (CU _ b1 Ab Ah (Af.mono (S.le_arg (Iv (i:=0) (e:=.blk b1 [Ab,iV 0] 25) rfl))) 0 (S.holds _ (List.mem_of_getElem? (i:=0) rfl)) _ hr1) rfl (fun _ _ _ h=>⟨h.1,fun _ hc=>by cases hc;rfl⟩) ?_;clear S;intro v1 a w2 hv1 hk2 hn1 S
 replace hv1:=hv1.2
 obtain ⟨q1,rfl,hq1⟩:=hv1
 obtain ⟨φ1,hl1,hm1,S⟩:=S.see' hn1 hz2
 obtain ⟨u2,u3,rfl,hs1,⟨u4,rfl,hs2⟩⟩:=Ys hm1 _ _ hq1
 refine Vm S rfl rfl fun a S=>Vm S rfl rfl ?_;clear S;intro a S
 obtain ⟨r2,hr2,h⟩:=Fa h
 refine Hl 0 S (b:=b1) rfl rfl (fun _=>.blk b1 [Ab,iV r2.2] 25) (fun _=>Dp (vs:=[.pointer (some ⟨b1,0,none⟩),iV 0,iV 16]) ⟨(S.tm rfl),rfl,rfl,trivial⟩ call6) (Pm _ b1 Ab Ah (Af.mono (S.le_arg (Iv (i:=0) (e:=.blk b1 [Ab,iV r1.2] 25) rfl))) r1.2 (S.holds _ (List.mem_of_getElem? (i:=0) rfl)) 0 16 _ hr2) rfl (fun _ _ _ h=>⟨h.1,fun _ hc=>by cases hc;rfl⟩) ?_;clear S;intro v2 a w3 hv2 hk3 hn2 S
 replace hv2:=hv2.2
 subst hv2
 obtain ⟨r3,hr3,h⟩:=Fa h
 have hz3:=S.keep.size
 refine Hl 0 S (b:=b1) rfl rfl (fun _=>.blk b1 [Ab,iV r3.2] 25) (fun _=>Dp (vs:=[.pointer (some ⟨b1,0,none⟩),iV r2.1]) ⟨(S.tm rfl),(S.tm rfl),trivial⟩ call5) (BQ _ b1 Ab Ah (Af.mono (S.le_arg (Iv (i:=0) (e:=.blk b1 [Ab,iV r2.2] 25) rfl))) r2.2 (S.holds _ (List.mem_of_getElem? (i:=0) rfl)) r2.1 _ hr3) rfl (fun _ _ _ h=>⟨h.1,fun _ hc=>by cases hc;rfl⟩) ?_;clear S;intro v3 a w4 hv3 hk4 hn3 S
 replace hv3:=hv3.2
 obtain ⟨φ2,hl2,hm2,S⟩:=S.see' hn3 hz3
 have hs3:=hv3.mono hm2
 refine Hs S zeroValue32 (cs:=[.slice none 0 0,.slice none 0 0,iV 0,iV 0,iV 0,iV 0,iV 0]) rfl rfl ?_;clear S;intro a w5 b2 hz4 hk5 S
 refine Ex S (S.tm rfl) (S.tm rfl) (i:=0) (off:=0) rfl sizeOf32 (vs:=[u2.val,u4.val,iV r1.1.Table.Relay,iV r1.1.Table.Most,iV r1.1.Final.Size,iV r1.1.Final.Many,iV r1.1.Final.Reserves]) rfl rfl rfl (Qz (Kq.one (Fj hs1)) (Qz (Kq.one (Fj hs2)) (Qz rfl (Qz rfl (Qz rfl (Qz rfl (Qz rfl rfl))))))) ?_;clear S;intro w6 hk6 S
 refine Va S rfl rfl fun a S=>Vk S rfl rfl fun a S=>Ld ?_
 replace S:=(S.nl [.blk b2 [u2.val,u4.val,iV r1.1.Table.Relay,iV r1.1.Table.Most,iV r1.1.Final.Size,iV r1.1.Final.Many,iV r1.1.Final.Reserves] 32] [true,false] rfl).k3 4 5 6 rfl
 refine Tn (Fr (lv S (Fp isAgg32 sizeOf32 (off:=0) (o:=0) (part:=[u2.val,u4.val,iV r1.1.Table.Relay,iV r1.1.Table.Most,iV r1.1.Final.Size,iV r1.1.Final.Many,iV r1.1.Final.Reserves]) rfl rfl (S.tm rfl) (S.cellsAt (i:=0) rfl)) rfl fun a S=>Vm S rfl rfl fun a S=>Vm S rfl rfl ?_));clear S;intro a S
 obtain ⟨r4,hr4,h⟩:=Fa h
 have hz5:=S.keep.size
 refine Dw S (fun _=>Dp (vs:=[.agg (R32.enc (R32.mk u2 (R28.mk u4 r1.1.Table.Relay r1.1.Table.Most) r1.1.Final)).toArray,v3,iV 60]) ⟨(S.tm rfl),(S.tm rfl),(S.tm rfl),trivial⟩ call7) (HA _ r1.1 (R32.mk u2 (R28.mk u4 r1.1.Table.Relay r1.1.Table.Most) r1.1.Final) ⟨u2,(R28.mk u4 r1.1.Table.Relay r1.1.Table.Most),rfl,(hs1.mono (View.le_trans hl2 (S.le_new Ec))),⟨u4,rfl,(hs2.mono (View.le_trans hl2 (S.le_new Ec)))⟩⟩ v3 r3.1 ((Ga Dk.enc_ok hs3).mono (S.le_new Ec)) 60 _ hr4) rfl ?_;clear S;intro v4 a w7 hv4 hk7 hn4 S
 obtain ⟨u6,rfl,ho3⟩:=hv4
 obtain ⟨φ3,hl3,hm3,S⟩:=S.see' hn4 hz5
 have hs4:=ho3.mono hm3
 refine Vm S rfl rfl fun a S=>Vq S Gb rfl rfl rfl fun a S=>Vq S Gb rfl rfl rfl fun a S=>Va S rfl rfl fun a S=>Va S rfl rfl fun a S=>Dl (Fs (Fr (Vm S rfl rfl ?_)));clear S;intro a S
 refine Vq S Kw rfl rfl rfl fun a S=>Dl (Fc h (S.tm rfl) (fun hb1 h=>?_) (fun hb1 h=>?_))
 ·refine Fr (Vk S rfl rfl fun a S=>Ld ?_)
  replace S:=S.n0.k1 2 rfl
  refine Tn (wp_ret (Dt ?_))
  obtain rfl:=Option.some.inj h
  exact Ej S results3 rfl rfl
 ·refine wp_skip (Tn (Fr (Vk S rfl rfl fun a S=>Ld ?_)))
  replace S:=S.k5 4 5 6 7 9 rfl
  refine Tn (Fs (Fr (Vf Xo S rfl rfl fun a S=>Vl isAgg26 0 S rfl rfl rfl rfl fun a S=>lv S (Fq Un (S.tm rfl) (Fj hs1)) rfl fun a S=>lv S (Rm rfl) rfl fun a S=>Dl ?_)))
  replace S:=S.k8 4 5 6 7 9 37 38 39 rfl
  obtain ⟨j1,hj1,h⟩:=Ep h
  refine Eg (fun a w'=>∃ x1 : Int,∃ φ4 : View,j1 x1 = some r ∧ View.le φ3 φ4 ∧ Sx w [] φ4 [.blk b2 [u2.val,u4.val,iV r1.1.Table.Relay,iV r1.1.Table.Most,iV r1.1.Final.Size,iV r1.1.Final.Many,iV r1.1.Final.Reserves] 32] [(7,u6),(9,iV x1)] 175 a w') ?_ ?_
  ·refine wp_block (Gx (fun (ys1 : List Dy) a w'=>∃ i1 : Nat,∃ x1 : Int,∃ φ4 : View,(∃ dn,r1.1.Races = dn ++ ys1 ∧ dn.length = i1) ∧ Gk r1 r3 j1 ys1 i1 x1 = some r ∧ View.le φ3 φ4 ∧ Sx w [] φ4 [.blk b2 [u2.val,u4.val,iV r1.1.Table.Relay,iV r1.1.Table.Most,iV r1.1.Final.Size,iV r1.1.Final.Many,iV r1.1.Final.Reserves] 32] [(4,.pointer (some ⟨b2,0,none⟩)),(5,v3),(6,iV 60),(7,u6),(9,iV x1),(37,u2.val),(38,iV (r1.1.Races.length : Int)),(39,iV (i1 : Int))] 175 a w') List.length r1.1.Races ⟨0,0,φ3,⟨[],rfl,rfl⟩,h,View.le_refl _,S.nf [true] rfl (subR rfl)⟩ ?_)
   clear S h;rintro ys1 a w8 ⟨i1,x1,φ4,⟨dn,hd1,hi1⟩,h,hl4,S⟩
   cases ys1 with
   | nil =>
    rw [Gk.eq_1] at h
    refine Fr (Vb S Et rfl rfl rfl fun a S=>Ld ?_)
    replace S:=S.k9 4 5 6 7 9 37 38 39 40 rfl
    exact Tn (Fs (wp_cond_false ((S.tm rfl).trans (congrArg Value.bool (Il hd1 hi1))) (wp_exit (Ed (Ed (Gp (Tn (⟨x1,φ4,h,hl4,S.nf [true] rfl (subR rfl)⟩))))))))
   | cons y1 ys1 =>
    rw [Gk.eq_2] at h
    refine Fr (Vb S Et rfl rfl rfl fun a S=>Ld ?_)
    replace S:=S.k9 4 5 6 7 9 37 38 39 40 rfl
    refine Tn (Fs (wp_cond_true ((S.tm rfl).trans (congrArg Value.bool (Ht hd1 hi1))) (wp_skip (Tn (Fs (wp_block (Fs (Fg ?_))))))))
    obtain ⟨b3,o1,hm4,hr5⟩:=Ev (a:=a) (x:=.tmp 37) (y:=.tmp 39) (ty:=0) Un hs1 (Io hd1 hi1) rfl (S.tm rfl) (S.tm rfl)
    refine lv S (hr5 _) rfl ?_;clear S;intro a S
    clear hr5
    refine lv S (Fp isAgg42 sizeOf42 (off:=o1) (o:=0) (part:=(Dy.enc y1)) rfl rfl (S.tm rfl) ((hm4.mono (View.le_trans (View.le_trans hl2 hl3) hl4)).at S.emb)) rfl fun a S=>Hs S zeroValue42 (cs:=[sV An,iV 0,iV 0,iV 0,iV 0,iV 0,iV 0,iV 0]) rfl rfl ?_;clear S;intro a w10 b4 hz6 hk8 S
    refine Ex S (S.tm rfl) (S.tm rfl) (i:=0) (off:=0) rfl sizeOf42 (vs:=(Dy.enc y1)) rfl rfl rfl rfl ?_;clear S;intro w11 hk9 S
    refine Dz (lv S (Fp isAgg32 sizeOf32 (off:=0) (o:=0) (part:=[u2.val,u4.val,iV r1.1.Table.Relay,iV r1.1.Table.Most,iV r1.1.Final.Size,iV r1.1.Final.Many,iV r1.1.Final.Reserves]) rfl rfl (S.tm rfl) (S.cellsAt (i:=1) rfl)) rfl fun a S=>Vm S rfl rfl fun a S=>Vf Tx S rfl rfl fun a S=>Vl isAgg9 0 S rfl rfl rfl rfl fun a S=>Vm S rfl rfl ?_);clear S;intro a S
    obtain ⟨r5,hr6,h⟩:=Fa h
    have hz7:=S.keep.size
    refine Dw S (fun _=>Dp (vs:=[.agg (R32.enc (R32.mk u2 (R28.mk u4 r1.1.Table.Relay r1.1.Table.Most) r1.1.Final)).toArray,v3,sV y1.Key,iV 60]) ⟨(S.tm rfl),(S.tm rfl),(S.tm rfl),(S.tm rfl),trivial⟩ call8) (HB _ r1.1 (R32.mk u2 (R28.mk u4 r1.1.Table.Relay r1.1.Table.Most) r1.1.Final) ⟨u2,(R28.mk u4 r1.1.Table.Relay r1.1.Table.Most),rfl,(hs1.mono (View.le_trans (View.le_trans (View.le_trans hl2 hl3) hl4) (S.le_new Ec))),⟨u4,rfl,(hs2.mono (View.le_trans (View.le_trans (View.le_trans hl2 hl3) hl4) (S.le_new Ec)))⟩⟩ v3 r3.1 ((Ga Dk.enc_ok hs3).mono (View.le_trans (View.le_trans hl3 hl4) (S.le_new Ec))) y1.Key 60 _ hr6) rfl ?_;clear S;intro v5 a w12 hv5 hk10 hn5 S
    obtain ⟨u7,rfl,ho4⟩:=hv5
    obtain ⟨φ5,hl5,hm5,S⟩:=S.see' hn5 hz7
    have hs5:=ho4.mono hm5
    refine Vm S rfl rfl fun a S=>Vq S Gb rfl rfl rfl fun a S=>Vq S Gb rfl rfl rfl fun a S=>Va S rfl rfl fun a S=>Va S rfl rfl fun a S=>Ld ?_
    replace S:=(S.nl [.blk b4 (Dy.enc y1) 42,.blk b2 [u2.val,u4.val,iV r1.1.Table.Relay,iV r1.1.Table.Most,iV r1.1.Final.Size,iV r1.1.Final.Many,iV r1.1.Final.Reserves] 32] [true,true] rfl).k11 4 5 6 7 9 11 12 13 37 38 39 rfl
    refine Tn (Fr (lv S (Fp isAgg32 sizeOf32 (off:=0) (o:=0) (part:=[u2.val,u4.val,iV r1.1.Table.Relay,iV r1.1.Table.Most,iV r1.1.Final.Size,iV r1.1.Final.Many,iV r1.1.Final.Reserves]) rfl rfl (S.tm rfl) (S.cellsAt (i:=1) rfl)) rfl fun a S=>Vm S rfl rfl fun a S=>Vf Tx S rfl rfl fun a S=>Vl isAgg9 0 S rfl rfl rfl rfl fun a S=>Vm S rfl rfl ?_));clear S;intro a S
    obtain ⟨r6,hr7,h⟩:=Fa h
    have hz8:=S.keep.size
    refine Dw S (fun _=>Dp (vs:=[.agg (R32.enc (R32.mk u2 (R28.mk u4 r1.1.Table.Relay r1.1.Table.Most) r1.1.Final)).toArray,v3,sV y1.Key,iV 60]) ⟨(S.tm rfl),(S.tm rfl),(S.tm rfl),(S.tm rfl),trivial⟩ call9) (HE _ r1.1 (R32.mk u2 (R28.mk u4 r1.1.Table.Relay r1.1.Table.Most) r1.1.Final) ⟨u2,(R28.mk u4 r1.1.Table.Relay r1.1.Table.Most),rfl,(hs1.mono (View.le_trans (View.le_trans (View.le_trans (View.le_trans hl2 hl3) hl4) hl5) (S.le_new Ec))),⟨u4,rfl,(hs2.mono (View.le_trans (View.le_trans (View.le_trans (View.le_trans hl2 hl3) hl4) hl5) (S.le_new Ec)))⟩⟩ v3 r3.1 ((Ga Dk.enc_ok hs3).mono (View.le_trans (View.le_trans (View.le_trans hl3 hl4) hl5) (S.le_new Ec))) y1.Key 60 _ hr7) rfl ?_;clear S;intro v6 a w13 hv6 hk11 hn6 S
    obtain ⟨u8,rfl,ho5⟩:=hv6
    obtain ⟨φ6,hl6,hm6,S⟩:=S.see' hn6 hz8
    have hs6:=ho5.mono hm6
    refine Vm S rfl rfl fun a S=>Vq S Gb rfl rfl rfl fun a S=>Vq S Gb rfl rfl rfl fun a S=>Va S rfl rfl fun a S=>Va S rfl rfl fun a S=>Ld ?_
    replace S:=S.d0.k12 4 5 6 7 9 12 13 14 15 37 38 39 rfl
    refine Tn (Fs (Fr (Vm S rfl rfl fun a S=>Vm S rfl rfl fun a S=>Er S underlying73 sizeOf38 zeroValue38 rfl rfl (pv:=[(0,iV r5.2),(1,iV r6.2)]) ⟨rfl,(S.tm rfl),rfl,(S.tm rfl),trivial⟩ (cs:=[iV r5.2,iV r6.2]) (by kernel_rfl) rfl ?_)));clear S;intro a w14 b5 hz9 hk12 S
    refine Dw S (fun _=>Dp (vs:=[.slice (some ⟨b5,0,none⟩) 2 2]) ⟨(S.tm rfl),trivial⟩ call10) (Yu _ (.slice (some ⟨b5,0,none⟩) 2 2) [r5.2,r6.2] (Jx Ik S (i:=0) rfl rfl rfl rfl ((Ia (e':=.blk b5 [iV r5.2,iV r6.2] 38)) _ rfl)) _ rfl) rfl ?_;clear S;intro v7 a w15 hv7 hk13 hn7 S
    subst hv7
    refine Vq S Kw rfl rfl rfl fun a S=>Ld ?_
    replace S:=(S.nl [.blk b2 [u2.val,u4.val,iV r1.1.Table.Relay,iV r1.1.Table.Most,iV r1.1.Final.Size,iV r1.1.Final.Many,iV r1.1.Final.Reserves] 32] [false,true] rfl).k11 4 5 6 7 9 12 14 37 38 39 65 rfl
    refine Tn (Fc h (S.tm rfl) (fun hb2 h=>?_) (fun hb2 h=>?_))
    ·refine Fr (Vk S rfl rfl fun a S=>Dl (wp_ret (Dt (Fl (Dt (Dt (Fl ?_)))))))
     refine Dt (Dt ?_)
     obtain rfl:=Option.some.inj h
     exact Ej S results3 rfl rfl
    ·refine wp_skip (Tn (Fr (Vm S rfl rfl fun a S=>Vm S rfl rfl fun a S=>lv S (Fq DE (S.tm rfl) (Fj (Ga Gq.enc_ok hs5))) rfl fun a S=>Vm S rfl rfl fun a S=>lv S (Fq GL (S.tm rfl) (Fj (Ga Ic.enc_ok hs6))) rfl fun a S=>Vb S Iu rfl rfl rfl fun a S=>Vb S Gc rfl rfl rfl ?_)));clear S;intro a S
     refine Va S rfl rfl fun a S=>Ld ?_
     replace S:=S.k10 4 5 6 7 9 12 14 37 38 39 rfl
     refine Tn (Fr (Vm S rfl rfl fun a S=>lv S (Fq GL (S.tm rfl) (Fj (Ga Ic.enc_ok hs6))) rfl fun a S=>lv S (Rm rfl) rfl fun a S=>Dl ?_))
     replace S:=S.k13 4 5 6 7 9 12 14 37 38 39 73 74 75 rfl
     obtain ⟨j2,hj2,h⟩:=Ep h
     refine Eg (fun a w'=>j2 = some r ∧ Sx w [] φ6 [.blk b2 [u2.val,u4.val,iV r1.1.Table.Relay,iV r1.1.Table.Most,iV r1.1.Final.Size,iV r1.1.Final.Many,iV r1.1.Final.Reserves] 32] [(4,.pointer (some ⟨b2,0,none⟩)),(5,v3),(6,iV 60),(7,u6),(9,iV (W (x1 + (W ((r5.1.length : Int) - (r6.1.length : Int)))))),(37,u2.val),(38,iV (r1.1.Races.length : Int)),(39,iV (i1 : Int))] 175 a w') ?_ ?_
     ·refine wp_block (Gx (fun (ys2 : List Ic) a w'=>∃ i2 : Nat,(∃ dn,r6.1 = dn ++ ys2 ∧ dn.length = i2) ∧ Hf r5 r6 j2 ys2 i2 = some r ∧ Sx w [] φ6 [.blk b2 [u2.val,u4.val,iV r1.1.Table.Relay,iV r1.1.Table.Most,iV r1.1.Final.Size,iV r1.1.Final.Many,iV r1.1.Final.Reserves] 32] [(4,.pointer (some ⟨b2,0,none⟩)),(5,v3),(6,iV 60),(7,u6),(9,iV (W (x1 + (W ((r5.1.length : Int) - (r6.1.length : Int)))))),(12,u7),(14,u8),(37,u2.val),(38,iV (r1.1.Races.length : Int)),(39,iV (i1 : Int)),(73,u8),(74,iV (r6.1.length : Int)),(75,iV (i2 : Int))] 175 a w') List.length r6.1 ⟨0,⟨[],rfl,rfl⟩,h,S.nf [true] rfl (subR rfl)⟩ ?_)
      clear S h;rintro ys2 a w16 ⟨i2,⟨dn,hd2,hi2⟩,h,S⟩
      cases ys2 with
      | nil =>
       rw [Hf.eq_1] at h
       refine Fr (Vb S Et rfl rfl rfl fun a S=>Ld ?_)
       replace S:=S.k14 4 5 6 7 9 12 14 37 38 39 73 74 75 76 rfl
       exact Tn (Fs (wp_cond_false ((S.tm rfl).trans (congrArg Value.bool (Il hd2 hi2))) (wp_exit (Ed (Ed (Gp (Tn (⟨h,S.nf [true] rfl (subR rfl)⟩))))))))
      | cons y2 ys2 =>
       rw [Hf.eq_2] at h
       refine Fr (Vb S Et rfl rfl rfl fun a S=>Ld ?_)
       replace S:=S.k14 4 5 6 7 9 12 14 37 38 39 73 74 75 76 rfl
       refine Tn (Fs (wp_cond_true ((S.tm rfl).trans (congrArg Value.bool (Ht hd2 hi2))) (wp_skip (Tn (Fs (wp_block (Fr (Vm S rfl rfl ?_))))))));clear S;intro a S
       obtain ⟨b6,o2,hm7,hr8⟩:=Ev (a:=a) (x:=.tmp 73) (y:=.tmp 75) (ty:=0) GL (Ga Ic.enc_ok hs6) (Io hd2 hi2) rfl (S.tm rfl) (S.tm rfl)
       refine lv S (hr8 _) rfl ?_;clear S;intro a S
       clear hr8
       refine lv S (Fp isAgg53 sizeOf53 (off:=o2) (o:=0) (part:=(Ic.enc y2)) rfl rfl (S.tm rfl) (hm7.at S.emb)) rfl fun a S=>Hs S zeroValue53 (cs:=[iV 0,sV An,sV An,iV 0,iV 0,iV 0,iV 0]) rfl rfl ?_;clear S;intro a w18 b7 hz10 hk14 S
       refine Va S rfl rfl fun a S=>Ex S (S.tm rfl) (S.tm rfl) (i:=0) (off:=0) rfl sizeOf53 (vs:=(Ic.enc y2)) rfl rfl rfl rfl ?_;clear S;intro w19 hk15 S
       refine Ld ?_
       replace S:=(S.nl [.blk b7 (Ic.enc y2) 53,.blk b2 [u2.val,u4.val,iV r1.1.Table.Relay,iV r1.1.Table.Most,iV r1.1.Final.Size,iV r1.1.Final.Many,iV r1.1.Final.Reserves] 32] [true,true] rfl).k15 4 5 6 7 9 12 14 16 17 37 38 39 73 74 75 rfl
       refine Tn (Fs (Fr (Vm S rfl rfl fun a S=>lv S (Tg (us:=#[]) (xs:=[].toArray) (ys:=[.tmp 17].toArray) (by simp) (evA ⟨(S.tm rfl),trivial⟩ (vs:=[.pointer (some ⟨b7,0,none⟩)]))) rfl fun a S=>Dw S (fun _=>Dp (vs:=[u7,.func (.func 12) #[] #[.pointer (some ⟨b7,0,none⟩)]]) ⟨(S.tm rfl),(S.tm rfl),trivial⟩ call11) (Oo _ u7 r5.1 ((Ga Gq.enc_ok hs5).mono (View.le_trans hl6 (S.le_new Ec))) b7 y2 (S.blk_view (i:=0) rfl ((Ia (e':=.blk b7 (Ic.enc y2) 53)) _ rfl)) _ rfl) rfl ?_)));clear S;intro v8 a w20 hv8 hk16 hn8 S
       subst hv8
       refine Vu S Hj rfl rfl fun a S=>Vm S rfl rfl fun a S=>Hn 13 (fun a w'=>Keep [] w20 w' ∧ Sx w [] φ6 [.blk b7 (Ic.enc y2) 53,.blk b2 [u2.val,u4.val,iV r1.1.Table.Relay,iV r1.1.Table.Most,iV r1.1.Final.Size,iV r1.1.Final.Many,iV r1.1.Final.Reserves] 32] [(4,.pointer (some ⟨b2,0,none⟩)),(5,v3),(6,iV 60),(7,u6),(9,iV (W (x1 + (W ((r5.1.length : Int) - (r6.1.length : Int)))))),(12,u7),(14,u8),(16,iV (i2 : Int)),(17,.pointer (some ⟨b7,0,none⟩)),(37,u2.val),(38,iV (r1.1.Races.length : Int)),(39,iV (i1 : Int)),(73,u8),(74,iV (r6.1.length : Int)),(75,iV (i2 : Int)),(97,bV ((!(Ef r5.1 y2)) || (!decide ((decide (0 < y2.Rank)) = ((decide (0 < y2.Time)) && (decide (y2.Fault = 0)))))))] 175 a w') ?_ ?_
       ·rcases Bool.eq_false_or_eq_true (!(Ef r5.1 y2)) with hb3 | hb3
        ·iterate 7 (refine Gn S rfl rfl rfl (Kp hb3) rfl ?_ rfl;clear S;intro a S)
         iterate 3 (refine Xl S rfl rfl rfl rfl ?_;clear S;intro a S)
         exact Gn S rfl rfl rfl (Kp hb3) rfl (fun a S=>Gn S rfl rfl rfl (Kp hb3) rfl (fun a S=>lv S (Jq (!decide ((decide (0 < y2.Rank)) = ((decide (0 < y2.Time)) && (decide (y2.Fault = 0))))) hb3 (S.tm rfl) rfl) rfl fun a S=>Dl (⟨Keep.refl _ _,S.nf [true,true] rfl (subR rfl)⟩)) rfl) rfl
        ·refine Du S rfl rfl rfl hb3 (Vf AD S rfl rfl fun a S=>Du S rfl rfl rfl hb3 (Vl isAgg3 0 S rfl rfl rfl rfl fun a S=>Du S rfl rfl rfl hb3 (Vq S It rfl rfl rfl fun a S=>Du S rfl rfl rfl hb3 (Vf EQ S rfl rfl fun a S=>Du S rfl rfl rfl hb3 (Vl isAgg3 0 S rfl rfl rfl rfl fun a S=>Du S rfl rfl rfl hb3 ?_)))))
         refine Vq S It rfl rfl rfl fun a S=>Du S rfl rfl rfl hb3 (Vm S rfl rfl fun a S=>Hn 4 (fun a w'=>Keep [] w20 w' ∧ Sx w [] φ6 [.blk b7 (Ic.enc y2) 53,.blk b2 [u2.val,u4.val,iV r1.1.Table.Relay,iV r1.1.Table.Most,iV r1.1.Final.Size,iV r1.1.Final.Many,iV r1.1.Final.Reserves] 32] [(4,.pointer (some ⟨b2,0,none⟩)),(5,v3),(6,iV 60),(7,u6),(9,iV (W (x1 + (W ((r5.1.length : Int) - (r6.1.length : Int)))))),(12,u7),(14,u8),(16,iV (i2 : Int)),(17,.pointer (some ⟨b7,0,none⟩)),(37,u2.val),(38,iV (r1.1.Races.length : Int)),(39,iV (i1 : Int)),(73,u8),(74,iV (r6.1.length : Int)),(75,iV (i2 : Int)),(84,bV (!(Ef r5.1 y2))),(85,.pointer (some ⟨b7,0,none⟩)),(86,iV y2.Rank),(87,bV (decide (0 < y2.Rank))),(88,.pointer (some ⟨b7,3,none⟩)),(89,iV y2.Time),(90,bV (decide (0 < y2.Time))),(91,bV (decide (0 < y2.Time))),(95,bV ((decide (0 < y2.Time)) && (decide (y2.Fault = 0))))] 175 a w') ?_ ?_)
         ·rcases Bool.eq_false_or_eq_true (decide (0 < y2.Time)) with hb4 | hb4
          ·exact Du S rfl rfl rfl hb4 (Vf fa_53_4 S rfl rfl fun a S=>Du S rfl rfl rfl hb4 (Vl isAgg3 0 S rfl rfl rfl rfl fun a S=>Du S rfl rfl rfl hb4 (Vq S Im rfl rfl rfl fun a S=>Du S rfl rfl rfl hb3 (lv S (Hg hb4 (S.tm rfl) (S.tm rfl)) rfl fun a S=>Dl (⟨Keep.refl _ _,S.nf [true,true] rfl (subR rfl)⟩)))))
          ·iterate 3 (refine Gn S rfl rfl rfl (Jh hb4) rfl ?_ rfl;clear S;intro a S)
           exact Du S rfl rfl rfl hb3 (lv S (Hh (decide (y2.Fault = 0)) hb4 (S.tm rfl) rfl) rfl fun a S=>Dl (⟨Keep.refl _ _,S.nf [true,true] rfl (subR rfl)⟩))
         clear S;rintro a w22 ⟨hk17,S⟩
         exact Du S rfl rfl rfl hb3 (lv S (HJ underlying4 (S.tm rfl) (S.tm rfl)) rfl fun a S=>lv S (Jr hb3 (S.tm rfl) (S.tm rfl)) rfl fun a S=>Dl (⟨hk17,S.nf [true,true] rfl (subR rfl)⟩))
       clear S;rintro a w21 ⟨hk18,S⟩
       refine Vm S rfl rfl fun a S=>Hn 10 (fun a w'=>Keep [] w21 w' ∧ Sx w [] φ6 [.blk b7 (Ic.enc y2) 53,.blk b2 [u2.val,u4.val,iV r1.1.Table.Relay,iV r1.1.Table.Most,iV r1.1.Final.Size,iV r1.1.Final.Many,iV r1.1.Final.Reserves] 32] [(4,.pointer (some ⟨b2,0,none⟩)),(5,v3),(6,iV 60),(7,u6),(9,iV (W (x1 + (W ((r5.1.length : Int) - (r6.1.length : Int)))))),(12,u7),(14,u8),(16,iV (i2 : Int)),(17,.pointer (some ⟨b7,0,none⟩)),(37,u2.val),(38,iV (r1.1.Races.length : Int)),(39,iV (i1 : Int)),(73,u8),(74,iV (r6.1.length : Int)),(75,iV (i2 : Int)),(108,bV (((!(Ef r5.1 y2)) || (!decide ((decide (0 < y2.Rank)) = ((decide (0 < y2.Time)) && (decide (y2.Fault = 0)))))) || ((decide (y2.Rank = 0)) && (!decide (y2.Points.Num = 0)))))] 175 a w') ?_ ?_
       ·rcases Bool.eq_false_or_eq_true ((!(Ef r5.1 y2)) || (!decide ((decide (0 < y2.Rank)) = ((decide (0 < y2.Time)) && (decide (y2.Fault = 0)))))) with hb5 | hb5
        ·iterate 4 (refine Gn S rfl rfl rfl (Kp hb5) rfl ?_ rfl;clear S;intro a S)
         iterate 4 (refine Xl S rfl rfl rfl rfl ?_;clear S;intro a S)
         exact Gn S rfl rfl rfl (Kp hb5) rfl (fun a S=>lv S (Jq ((decide (y2.Rank = 0)) && (!decide (y2.Points.Num = 0))) hb5 (S.tm rfl) rfl) rfl fun a S=>Dl (⟨Keep.refl _ _,S.nf [true,true] rfl (subR rfl)⟩)) rfl
        ·refine Du S rfl rfl rfl hb5 (Vf AD S rfl rfl fun a S=>Du S rfl rfl rfl hb5 (Vl isAgg3 0 S rfl rfl rfl rfl fun a S=>Du S rfl rfl rfl hb5 (Vq S Im rfl rfl rfl fun a S=>Du S rfl rfl rfl hb5 (Vm S rfl rfl fun a S=>Hn 5 (fun a w'=>Keep [] w21 w' ∧ Sx w [] φ6 [.blk b7 (Ic.enc y2) 53,.blk b2 [u2.val,u4.val,iV r1.1.Table.Relay,iV r1.1.Table.Most,iV r1.1.Final.Size,iV r1.1.Final.Many,iV r1.1.Final.Reserves] 32] [(4,.pointer (some ⟨b2,0,none⟩)),(5,v3),(6,iV 60),(7,u6),(9,iV (W (x1 + (W ((r5.1.length : Int) - (r6.1.length : Int)))))),(12,u7),(14,u8),(16,iV (i2 : Int)),(17,.pointer (some ⟨b7,0,none⟩)),(37,u2.val),(38,iV (r1.1.Races.length : Int)),(39,iV (i1 : Int)),(73,u8),(74,iV (r6.1.length : Int)),(75,iV (i2 : Int)),(98,bV ((!(Ef r5.1 y2)) || (!decide ((decide (0 < y2.Rank)) = ((decide (0 < y2.Time)) && (decide (y2.Fault = 0))))))),(99,.pointer (some ⟨b7,0,none⟩)),(100,iV y2.Rank),(101,bV (decide (y2.Rank = 0))),(102,bV (decide (y2.Rank = 0))),(107,bV ((decide (y2.Rank = 0)) && (!decide (y2.Points.Num = 0))))] 175 a w') ?_ ?_))))
         ·rcases Bool.eq_false_or_eq_true (decide (y2.Rank = 0)) with hb6 | hb6
          ·refine Du S rfl rfl rfl hb6 (Vf fa_53_5 S rfl rfl fun a S=>Du S rfl rfl rfl hb6 (Vf fa_51_0 S rfl rfl fun a S=>Du S rfl rfl rfl hb6 (Vl isAgg3 0 S rfl rfl rfl rfl fun a S=>Du S rfl rfl rfl hb6 (Vq S Kw rfl rfl rfl fun a S=>Du S rfl rfl rfl hb5 (lv S (Hg hb6 (S.tm rfl) (S.tm rfl)) rfl fun a S=>Ld ?_)))))
           exact Tn (⟨Keep.refl _ _,S.nf [true,true] rfl (subR rfl)⟩)
          ·iterate 4 (refine Gn S rfl rfl rfl (Jh hb6) rfl ?_ rfl;clear S;intro a S)
           exact Du S rfl rfl rfl hb5 (lv S (Hh (!decide (y2.Points.Num = 0)) hb6 (S.tm rfl) rfl) rfl fun a S=>Dl (⟨Keep.refl _ _,S.nf [true,true] rfl (subR rfl)⟩))
         clear S;rintro a w24 ⟨hk19,S⟩
         exact lv S (Jr hb5 (S.tm rfl) (S.tm rfl)) rfl fun a S=>Dl (⟨hk19,S.nf [true,true] rfl (subR rfl)⟩)
       clear S;rintro a w23 ⟨hk20,S⟩
       refine Ld ?_
       replace S:=S.k16 4 5 6 7 9 12 14 16 17 37 38 39 73 74 75 108 rfl
       refine Tn (Fc h (S.tm rfl) (fun hb7 h=>?_) (fun hb7 h=>?_))
       ·refine Fr (Vk S rfl rfl fun a S=>Ld ?_)
        replace S:=S.n0.k1 2 rfl
        refine Tn (wp_ret (Dt (Fl (Dt (Dt (Fl (Dt (Fl (Dt (Dt ?_))))))))))
        refine Fl (Dt (Dt ?_))
        obtain rfl:=Option.some.inj h
        exact Ej S results3 rfl rfl
       ·refine wp_skip (Tn (Fs (Hd [] ([]) Tryz.mixed S rfl (by kernel_rfl) ?_)));clear S;intro w25 hk21 hsel S
        refine Lw [0,1,2,3,4,5,6,7,8,9,10,11,12,13,14,15,16,17,18,19,20,21,22,23,24,25,26,27,28,29,30,31,32,33,34,35,36,37,38,39,40,41,42,43,44,45,46,47,48,49,50,51,52,53,54,55,56] hsel (by kernel_rfl) rfl ?_
        clear hsel
        refine Gm S rfl (Rm (S.tm rfl)) rfl fun a S=>Gm S rfl (It (S.tm rfl) rfl) rfl fun a S=>Gm S rfl (Rm (S.tm rfl)) rfl ?_;clear S;intro a S
        obtain ⟨j3,hj3,h⟩:=Ep h
        refine Ue 8 (fun a w'=>∃ c1,j3 c1 = some r ∧ Keep [] w25 w' ∧ Sx w [] φ6 [.blk b7 (Ic.enc y2) 53,.blk b2 [u2.val,u4.val,iV r1.1.Table.Relay,iV r1.1.Table.Most,iV r1.1.Final.Size,iV r1.1.Final.Many,iV r1.1.Final.Reserves] 32] [(4,.pointer (some ⟨b2,0,none⟩)),(5,v3),(6,iV 60),(7,u6),(9,iV (W (x1 + (W ((r5.1.length : Int) - (r6.1.length : Int)))))),(12,u7),(14,u8),(16,iV (i2 : Int)),(17,.pointer (some ⟨b7,0,none⟩)),(37,u2.val),(38,iV (r1.1.Races.length : Int)),(39,iV (i1 : Int)),(73,u8),(74,iV (r6.1.length : Int)),(75,iV (i2 : Int)),(119,bV c1)] 175 a w') ?_ ?_
        ·rcases Bool.eq_false_or_eq_true (decide (0 < (i2 : Int))) with hb8 | hb8
         ·replace h:=Qc h hb8
          refine Ee S rfl rfl rfl rfl hb8 (Fb S (Rm (S.tm rfl)) rfl fun a S=>Ee S rfl rfl rfl rfl hb8 (Fb S (Rm (S.tm rfl)) rfl fun a S=>Ee S rfl rfl rfl rfl hb8 (Fb S (Iu (S.tm rfl) rfl) rfl fun a S=>Ee S rfl rfl rfl rfl hb8 ?_)))
          obtain ⟨hc1,h⟩:=Ie h
          obtain ⟨b8,o3,hm8,hr9⟩:=Ev (a:=a) (x:=.tmp 112) (y:=.tmp 114) (ty:=0) GL (Ga Ic.enc_ok hs6) (Dx hc1).1 (Dx hc1).2 (S.tm rfl) (S.tm rfl)
          refine Fb S (hr9 _) rfl ?_;clear S;intro a S
          clear hr9
          exact Ee S rfl rfl rfl rfl hb8 (Fb S (Fy AD (S.tm rfl)) rfl fun a S=>Ee S rfl rfl rfl rfl hb8 (Fb S (Hm isAgg3 (off:=o3) (o:=0) (S.tm rfl) (hm8.at S.emb) rfl) rfl fun a S=>Ee S rfl rfl rfl rfl hb8 (Fb S (Im (S.tm rfl) rfl) rfl fun a S=>Gm S rfl (Hg hb8 (S.tm rfl) (S.tm rfl)) rfl fun a S=>Hv (⟨_,h,Keep.refl _ _,S.nf [true,true] rfl (subR rfl)⟩))))
         ·replace h:=Qd h hb8
          iterate 7 (refine Nk S rfl rfl rfl rfl (Jh hb8) rfl ?_ rfl;clear S;intro a S)
          exact Gm S rfl (Hh true hb8 (S.tm rfl) rfl) rfl fun a S=>Hv (⟨_,h,Keep.refl _ _,S.nf [true,true] rfl (subR rfl)⟩)
        clear S h;rintro a w26 ⟨c1,h,hk22,S⟩;rw [hj3] at h;clear hj3 j3
        refine Gm S rfl (Rm (S.tm rfl)) rfl fun a S=>Ue 4 (fun a w'=>Keep [] w26 w' ∧ Sx w [] φ6 [.blk b7 (Ic.enc y2) 53,.blk b2 [u2.val,u4.val,iV r1.1.Table.Relay,iV r1.1.Table.Most,iV r1.1.Final.Size,iV r1.1.Final.Many,iV r1.1.Final.Reserves] 32] [(4,.pointer (some ⟨b2,0,none⟩)),(5,v3),(6,iV 60),(7,u6),(9,iV (W (x1 + (W ((r5.1.length : Int) - (r6.1.length : Int)))))),(12,u7),(14,u8),(16,iV (i2 : Int)),(17,.pointer (some ⟨b7,0,none⟩)),(37,u2.val),(38,iV (r1.1.Races.length : Int)),(39,iV (i1 : Int)),(73,u8),(74,iV (r6.1.length : Int)),(75,iV (i2 : Int)),(124,bV (c1 && (decide (0 < y2.Rank))))] 175 a w') ?_ ?_
        ·rcases Bool.eq_false_or_eq_true c1 with hb9 | hb9
         ·exact Ee S rfl rfl rfl rfl hb9 (Fb S (Fy AD (S.tm rfl)) rfl fun a S=>Ee S rfl rfl rfl rfl hb9 (Fb S (La isAgg3 (S.tm rfl) (S.cell (i:=0) rfl rfl)) rfl fun a S=>Ee S rfl rfl rfl rfl hb9 (Fb S (It (S.tm rfl) rfl) rfl fun a S=>Gm S rfl (Hg hb9 (S.tm rfl) (S.tm rfl)) rfl fun a S=>Hv (⟨Keep.refl _ _,S.nf [true,true] rfl (subR rfl)⟩))))
         ·iterate 3 (refine Nk S rfl rfl rfl rfl (Jh hb9) rfl ?_ rfl;clear S;intro a S)
          exact Gm S rfl (Hh (decide (0 < y2.Rank)) hb9 (S.tm rfl) rfl) rfl fun a S=>Hv (⟨Keep.refl _ _,S.nf [true,true] rfl (subR rfl)⟩)
        clear S;rintro a w27 ⟨hk23,S⟩
        refine Gm S rfl (Rm (S.tm rfl)) rfl ?_;clear S;intro a S
        obtain ⟨j4,hj4,h⟩:=Ep h
        refine Ue 40 (fun a w'=>∃ c2,j4 c2 = some r ∧ Keep [] w27 w' ∧ Sx w [] φ6 [.blk b7 (Ic.enc y2) 53,.blk b2 [u2.val,u4.val,iV r1.1.Table.Relay,iV r1.1.Table.Most,iV r1.1.Final.Size,iV r1.1.Final.Many,iV r1.1.Final.Reserves] 32] [(4,.pointer (some ⟨b2,0,none⟩)),(5,v3),(6,iV 60),(7,u6),(9,iV (W (x1 + (W ((r5.1.length : Int) - (r6.1.length : Int)))))),(12,u7),(14,u8),(37,u2.val),(38,iV (r1.1.Races.length : Int)),(39,iV (i1 : Int)),(73,u8),(74,iV (r6.1.length : Int)),(75,iV (i2 : Int)),(165,bV c2)] 175 a w') ?_ ?_
        ·rcases Bool.eq_false_or_eq_true (c1 && (decide (0 < y2.Rank))) with hb10 | hb10
         ·replace h:=Qc h hb10
          iterate 3 (refine Nk S rfl rfl rfl rfl (Kp hb10) rfl ?_ rfl;clear S;intro a S)
          iterate 3 (refine HO S rfl rfl rfl rfl rfl ?_;clear S;intro a S)
          refine Nk S rfl rfl rfl rfl (Kp hb10) rfl (fun a S=>Nk S rfl rfl rfl rfl (Kp hb10) rfl ?_ rfl) rfl;clear S;intro a S
          iterate 30 (refine HO S rfl rfl rfl rfl rfl ?_;clear S;intro a S)
          exact Nk S rfl rfl rfl rfl (Kp hb10) rfl (fun a S=>Gm S rfl (Jq true hb10 (S.tm rfl) rfl) rfl fun a S=>Hv (⟨_,h,Keep.refl _ _,S.nf [true,true] rfl (subR rfl)⟩)) rfl
         ·replace h:=Qd h hb10
          refine Ee S rfl rfl rfl rfl hb10 (Fb S (Rm (S.tm rfl)) rfl fun a S=>Ee S rfl rfl rfl rfl hb10 (Fb S (It (S.tm rfl) rfl) rfl fun a S=>Ee S rfl rfl rfl rfl hb10 (Fb S (Rm (S.tm rfl)) rfl fun a S=>Ue 4 (fun a w'=>Keep [] w27 w' ∧ Sx w [] φ6 [.blk b7 (Ic.enc y2) 53,.blk b2 [u2.val,u4.val,iV r1.1.Table.Relay,iV r1.1.Table.Most,iV r1.1.Final.Size,iV r1.1.Final.Many,iV r1.1.Final.Reserves] 32] [(4,.pointer (some ⟨b2,0,none⟩)),(5,v3),(6,iV 60),(7,u6),(9,iV (W (x1 + (W ((r5.1.length : Int) - (r6.1.length : Int)))))),(12,u7),(14,u8),(16,iV (i2 : Int)),(17,.pointer (some ⟨b7,0,none⟩)),(37,u2.val),(38,iV (r1.1.Races.length : Int)),(39,iV (i1 : Int)),(73,u8),(74,iV (r6.1.length : Int)),(75,iV (i2 : Int)),(125,bV (c1 && (decide (0 < y2.Rank)))),(126,iV (i2 : Int)),(127,bV (decide (0 < (i2 : Int)))),(128,bV (decide (0 < (i2 : Int)))),(132,bV ((decide (0 < (i2 : Int))) && (decide (0 < y2.Rank))))] 175 a w') ?_ ?_)))
          ·rcases Bool.eq_false_or_eq_true (decide (0 < (i2 : Int))) with hb11 | hb11
           ·exact Ee S rfl rfl rfl rfl hb11 (Fb S (Fy AD (S.tm rfl)) rfl fun a S=>Ee S rfl rfl rfl rfl hb11 (Fb S (La isAgg3 (S.tm rfl) (S.cell (i:=0) rfl rfl)) rfl fun a S=>Ee S rfl rfl rfl rfl hb11 (Fb S (It (S.tm rfl) rfl) rfl fun a S=>Ee S rfl rfl rfl rfl hb10 (Fb S (Hg hb11 (S.tm rfl) (S.tm rfl)) rfl fun a S=>Hv (⟨Keep.refl _ _,S.nf [true,true] rfl (subR rfl)⟩)))))
           ·iterate 3 (refine Nk S rfl rfl rfl rfl (Jh hb11) rfl ?_ rfl;clear S;intro a S)
            exact Ee S rfl rfl rfl rfl hb10 (Fb S (Hh (decide (0 < y2.Rank)) hb11 (S.tm rfl) rfl) rfl fun a S=>Hv (⟨Keep.refl _ _,S.nf [true,true] rfl (subR rfl)⟩))
          clear S;rintro a w29 ⟨hk24,S⟩
          refine Ee S rfl rfl rfl rfl hb10 (Fb S (Rm (S.tm rfl)) rfl ?_);clear S;intro a S
          obtain ⟨j5,hj5,h⟩:=Ep h
          refine Ue 31 (fun a w'=>∃ c3,j5 c3 = some r ∧ Keep [] w29 w' ∧ Sx w [] φ6 [.blk b7 (Ic.enc y2) 53,.blk b2 [u2.val,u4.val,iV r1.1.Table.Relay,iV r1.1.Table.Most,iV r1.1.Final.Size,iV r1.1.Final.Many,iV r1.1.Final.Reserves] 32] [(4,.pointer (some ⟨b2,0,none⟩)),(5,v3),(6,iV 60),(7,u6),(9,iV (W (x1 + (W ((r5.1.length : Int) - (r6.1.length : Int)))))),(12,u7),(14,u8),(37,u2.val),(38,iV (r1.1.Races.length : Int)),(39,iV (i1 : Int)),(73,u8),(74,iV (r6.1.length : Int)),(75,iV (i2 : Int)),(125,bV (c1 && (decide (0 < y2.Rank)))),(126,iV (i2 : Int)),(127,bV (decide (0 < (i2 : Int)))),(128,bV (decide (0 < (i2 : Int)))),(132,bV ((decide (0 < (i2 : Int))) && (decide (0 < y2.Rank)))),(133,bV ((decide (0 < (i2 : Int))) && (decide (0 < y2.Rank)))),(164,bV c3)] 175 a w') ?_ ?_
          ·rcases Bool.eq_false_or_eq_true ((decide (0 < (i2 : Int))) && (decide (0 < y2.Rank))) with hb12 | hb12
           ·replace h:=Qc h hb12
            refine Ee S rfl rfl rfl rfl hb12 (Fb S (Rm (S.tm rfl)) rfl fun a S=>Ee S rfl rfl rfl rfl hb12 (Fb S (Rm (S.tm rfl)) rfl fun a S=>Ee S rfl rfl rfl rfl hb12 (Fb S (Iu (S.tm rfl) rfl) rfl fun a S=>Ee S rfl rfl rfl rfl hb12 ?_)))
            obtain ⟨hc2,h⟩:=Ie h
            obtain ⟨b9,o4,hm9,hr10⟩:=Ev (a:=a) (x:=.tmp 134) (y:=.tmp 136) (ty:=0) GL (Ga Ic.enc_ok hs6) (Dx hc2).1 (Dx hc2).2 (S.tm rfl) (S.tm rfl)
            refine Fb S (hr10 _) rfl ?_;clear S;intro a S
            clear hr10
            refine Ee S rfl rfl rfl rfl hb12 (Fb S (Fy EQ (S.tm rfl)) rfl fun a S=>Ee S rfl rfl rfl rfl hb12 (Fb S (Hm isAgg3 (off:=o4) (o:=3) (S.tm rfl) (hm9.at S.emb) rfl) rfl fun a S=>Ee S rfl rfl rfl rfl hb12 (Fb S (Fy EQ (S.tm rfl)) rfl fun a S=>Ee S rfl rfl rfl rfl hb12 (Fb S (La isAgg3 (S.tm rfl) (S.cell (i:=0) rfl rfl)) rfl fun a S=>Ee S rfl rfl rfl rfl hb12 (Fb S (It (S.tm rfl) (S.tm rfl)) rfl fun a S=>Ee S rfl rfl rfl rfl hb12 ?_)))))
            refine Fb S (Rm (S.tm rfl)) rfl ?_;clear S;intro a S
            obtain ⟨j6,hj6,h⟩:=Ep h
            refine Ue 20 (fun a w'=>∃ c4,j6 c4 = some r ∧ Keep [] w29 w' ∧ Sx w [] φ6 [.blk b7 (Ic.enc y2) 53,.blk b2 [u2.val,u4.val,iV r1.1.Table.Relay,iV r1.1.Table.Most,iV r1.1.Final.Size,iV r1.1.Final.Many,iV r1.1.Final.Reserves] 32] [(4,.pointer (some ⟨b2,0,none⟩)),(5,v3),(6,iV 60),(7,u6),(9,iV (W (x1 + (W ((r5.1.length : Int) - (r6.1.length : Int)))))),(12,u7),(14,u8),(37,u2.val),(38,iV (r1.1.Races.length : Int)),(39,iV (i1 : Int)),(73,u8),(74,iV (r6.1.length : Int)),(75,iV (i2 : Int)),(125,bV (c1 && (decide (0 < y2.Rank)))),(126,iV (i2 : Int)),(127,bV (decide (0 < (i2 : Int)))),(128,bV (decide (0 < (i2 : Int)))),(132,bV ((decide (0 < (i2 : Int))) && (decide (0 < y2.Rank)))),(133,bV ((decide (0 < (i2 : Int))) && (decide (0 < y2.Rank)))),(134,u8),(135,iV (i2 : Int)),(136,iV (W ((i2 : Int) - 1))),(137,.pointer (some ⟨b9,o4,none⟩)),(138,.pointer (some ⟨b9,o4 + 3,none⟩)),(139,iV ((nth r6.1 (W ((i2 : Int) - 1))).Time)),(140,.pointer (some ⟨b7,3,none⟩)),(141,iV y2.Time),(142,bV (decide (y2.Time < ((nth r6.1 (W ((i2 : Int) - 1))).Time)))),(143,bV (decide (y2.Time < ((nth r6.1 (W ((i2 : Int) - 1))).Time)))),(163,bV c4)] 175 a w') ?_ ?_
            ·rcases Bool.eq_false_or_eq_true (decide (y2.Time < ((nth r6.1 (W ((i2 : Int) - 1))).Time))) with hb13 | hb13
             ·replace h:=Qc h hb13
              iterate 19 (refine Nk S rfl rfl rfl rfl (Kp hb13) rfl ?_ rfl;clear S;intro a S)
              exact Ee S rfl rfl rfl rfl hb12 (Fb S (Jq true hb13 (S.tm rfl) rfl) rfl fun a S=>Hv (⟨_,h,Keep.refl _ _,S.nf [true,true] rfl (subR rfl)⟩))
             ·replace h:=Qd h hb13
              refine Ee S rfl rfl rfl rfl hb13 (Fb S (Rm (S.tm rfl)) rfl fun a S=>Ee S rfl rfl rfl rfl hb13 (Fb S (Rm (S.tm rfl)) rfl fun a S=>Ee S rfl rfl rfl rfl hb13 (Fb S (Iu (S.tm rfl) rfl) rfl fun a S=>Ee S rfl rfl rfl rfl hb13 ?_)))
              obtain ⟨hc3,h⟩:=Ie h
              obtain ⟨b10,o5,hm10,hr11⟩:=Ev (a:=a) (x:=.tmp 144) (y:=.tmp 146) (ty:=0) GL (Ga Ic.enc_ok hs6) (Dx hc3).1 (Dx hc3).2 (S.tm rfl) (S.tm rfl)
              refine Fb S (hr11 _) rfl ?_;clear S;intro a S
              clear hr11
              refine Ee S rfl rfl rfl rfl hb13 (Fb S (Fy EQ (S.tm rfl)) rfl fun a S=>Ee S rfl rfl rfl rfl hb13 (Fb S (Hm isAgg3 (off:=o5) (o:=3) (S.tm rfl) (hm10.at S.emb) rfl) rfl fun a S=>Ee S rfl rfl rfl rfl hb13 (Fb S (Fy EQ (S.tm rfl)) rfl fun a S=>Ee S rfl rfl rfl rfl hb13 (Fb S (La isAgg3 (S.tm rfl) (S.cell (i:=0) rfl rfl)) rfl fun a S=>Ee S rfl rfl rfl rfl hb13 (Fb S (Im (S.tm rfl) (S.tm rfl)) rfl fun a S=>Ee S rfl rfl rfl rfl hb13 ?_)))))
              refine Fb S (Rm (S.tm rfl)) rfl fun a S=>Ee S rfl rfl rfl rfl hb13 (Fb S (Rm (S.tm rfl)) rfl fun a S=>Ee S rfl rfl rfl rfl hb13 (Fb S (Iu (S.tm rfl) rfl) rfl fun a S=>Ee S rfl rfl rfl rfl hb13 ?_))
              obtain ⟨hc4,h⟩:=Ie h
              obtain ⟨b11,o6,hm11,hr12⟩:=Ev (a:=a) (x:=.tmp 153) (y:=.tmp 155) (ty:=0) GL (Ga Ic.enc_ok hs6) (Dx hc4).1 (Dx hc4).2 (S.tm rfl) (S.tm rfl)
              refine Fb S (hr12 _) rfl ?_;clear S;intro a S
              clear hr12
              refine Ee S rfl rfl rfl rfl hb13 (Fb S (Fy AD (S.tm rfl)) rfl fun a S=>Ee S rfl rfl rfl rfl hb13 (Fb S (Hm isAgg3 (off:=o6) (o:=0) (S.tm rfl) (hm11.at S.emb) rfl) rfl fun a S=>Ee S rfl rfl rfl rfl hb13 (Fb S (Fy AD (S.tm rfl)) rfl fun a S=>Ee S rfl rfl rfl rfl hb13 (Fb S (La isAgg3 (S.tm rfl) (S.cell (i:=0) rfl rfl)) rfl fun a S=>Ee S rfl rfl rfl rfl hb13 (Fb S (Im (S.tm rfl) (S.tm rfl)) rfl fun a S=>Ee S rfl rfl rfl rfl hb13 ?_)))))
              exact Fb S (HJ underlying4 (S.tm rfl) (S.tm rfl)) rfl fun a S=>Ee S rfl rfl rfl rfl hb12 (Fb S (Jr hb13 (S.tm rfl) (S.tm rfl)) rfl fun a S=>Hv (⟨_,h,Keep.refl _ _,S.nf [true,true] rfl (subR rfl)⟩))
            clear S h;rintro a w31 ⟨c4,h,hk25,S⟩;rw [hj6] at h;clear hj6 j6
            exact Ee S rfl rfl rfl rfl hb10 (Fb S (Hg hb12 (S.tm rfl) (S.tm rfl)) rfl fun a S=>Hv (⟨_,h,hk25,S.nf [true,true] rfl (subR rfl)⟩))
           ·replace h:=Qd h hb12
            iterate 10 (refine Nk S rfl rfl rfl rfl (Jh hb12) rfl ?_ rfl;clear S;intro a S)
            iterate 19 (refine HO S rfl rfl rfl rfl rfl ?_;clear S;intro a S)
            exact Nk S rfl rfl rfl rfl (Jh hb12) rfl (fun a S=>Ee S rfl rfl rfl rfl hb10 (Fb S (Hh true hb12 (S.tm rfl) rfl) rfl fun a S=>Hv (⟨_,h,Keep.refl _ _,S.nf [true,true] rfl (subR rfl)⟩))) rfl
          clear S h;rintro a w30 ⟨c3,h,hk26,S⟩;rw [hj5] at h;clear hj5 j5
          exact Gm S rfl (Jr hb10 (S.tm rfl) (S.tm rfl)) rfl fun a S=>Hv (⟨_,h,(hk24).trans hk26,S.nf [true,true] rfl (subR rfl)⟩)
        clear S h;rintro a w28 ⟨c2,h,hk27,S⟩;rw [hj4] at h;clear hj4 j4
        refine Hv ?_
        replace S:=S.d0.k14 4 5 6 7 9 12 14 37 38 39 73 74 75 165 rfl
        refine Tn (Fc h (S.tm rfl) (fun hb14 h=>?_) (fun hb14 h=>?_))
        ·refine Fr (Vk S rfl rfl fun a S=>Ld ?_)
         replace S:=S.n0.k1 2 rfl
         refine Tn (wp_ret (Fl (Dt (Dt (Fl (Dt (Fl (Dt (Dt (Fl ?_))))))))))
         refine Dt (Dt ?_)
         obtain rfl:=Option.some.inj h
         exact Ej S results3 rfl rfl
        ·refine wp_skip (Ho (Tn (Fg (Vq S Gc rfl rfl rfl fun a S=>Vm S rfl rfl fun a S=>Ld ?_))))
         replace S:=S.k13 4 5 6 7 9 12 14 37 38 39 73 74 75 rfl
         exact Tn (⟨ys2,⟨i2 + 1,⟨_,(hd2).trans (List.append_cons _ _ _),by simp [hi2]⟩,h,S.nf [true] rfl ⟨rfl,rfl,rfl,rfl,rfl,rfl,rfl,rfl,rfl,rfl,rfl,rfl,(congrArg (fun z=>some (Value.int .i64 z)) (Hu hd2 hi2 (Iz (Ga Ic.enc_ok hs6)))),trivial⟩⟩,Nat.lt_succ_self _⟩)
     clear S h;rintro a w17 ⟨h,S⟩;rw [hj2] at h;clear hj2 j2
     exact Ho (Tn (Fg (Vq S Gc rfl rfl rfl fun a S=>Vm S rfl rfl fun a S=>Dl (⟨ys1,⟨i1 + 1,W (x1 + (W ((r5.1.length : Int) - (r6.1.length : Int)))),φ6,⟨_,(hd1).trans (List.append_cons _ _ _),by simp [hi1]⟩,h,(View.le_trans hl4 (View.le_trans hl5 hl6)),S.nf [true] rfl ⟨rfl,rfl,rfl,rfl,rfl,rfl,rfl,(congrArg (fun z=>some (Value.int .i64 z)) (Hu hd1 hi1 (Iz hs1))),trivial⟩⟩,Nat.lt_succ_self _⟩))))
  clear S h;rintro a w9 ⟨x1,φ4,h,hl4,S⟩;rw [hj1] at h;clear hj1 j1
  refine Tn (Fr (Vm S rfl rfl fun a S=>Vm S rfl rfl fun a S=>lv S (Fq sl_37 (S.tm rfl) (Fj (Ga Kj.enc_ok hs4))) rfl fun a S=>Vb S Im rfl rfl rfl fun a S=>Vm S rfl rfl ?_));clear S;intro a S
  obtain ⟨j7,hj7,h⟩:=Ep h
  refine Hn 2 (fun a w'=>∃ c5,j7 c5 = some r ∧ Keep [] w9 w' ∧ Sx w [] φ4 [.blk b2 [u2.val,u4.val,iV r1.1.Table.Relay,iV r1.1.Table.Most,iV r1.1.Final.Size,iV r1.1.Final.Many,iV r1.1.Final.Reserves] 32] [(174,bV c5)] 175 a w') ?_ ?_
  ·rcases Bool.eq_false_or_eq_true (decide (x1 = (r4.1.length : Int))) with hb15 | hb15
   ·replace h:=Qc h hb15
    refine Du S rfl rfl rfl hb15 ?_
    obtain ⟨r7,hr13,h⟩:=Fa h
    refine Dw S (fun _=>Dp (vs:=[]) trivial call13) (DY _ _ hr13) rfl ?_;clear S;intro v9 a w33 hv9 hk28 hn9 S
    subst hv9
    exact lv S (Hg hb15 (S.tm rfl) (S.tm rfl)) rfl fun a S=>Dl (⟨_,h,hk28,S.nf [true] rfl ⟨rfl,trivial⟩⟩)
   ·replace h:=Qd h hb15
    exact Gn S rfl rfl rfl (Jh hb15) rfl (fun a S=>Vq S (Hh true hb15) rfl rfl rfl fun a S=>Dl (⟨_,h,Keep.refl _ _,S.nf [true] rfl ⟨rfl,trivial⟩⟩)) rfl
  clear S h;rintro a w32 ⟨c5,h,hk29,S⟩;rw [hj7] at h;clear hj7 j7
  refine Va S rfl rfl fun a S=>Dl (wp_ret ?_)
  obtain rfl:=Option.some.inj h
  exact Ej S results3 rfl rfl
end Go.Proofs.YtfcmmengcdebnaaGreatDoor
